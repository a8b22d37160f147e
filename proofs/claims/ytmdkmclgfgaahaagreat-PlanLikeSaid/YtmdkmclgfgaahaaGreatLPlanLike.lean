/- All two configurations: Like is what the chapter says, either way; nothing is like no plan. No conditions. -/
import Derived.Test.YtmdkmclgfgaahaaGreatM5
import Derived.Test.YtmdkmclgfgaahaaGreatHxG
set_option linter.unusedVariables false
set_option linter.unusedSimpArgs false
namespace Go.Proofs.YtmdkmclgfgaahaaGreat
open Go.ChangeShapes Go.WideShapes Go.ChangeAt Go.RowKit
open Go Go.Gx Go.Proofs.YtmdkmclgfgaahaaGreat.Tri
theorem own : ownKnob Tryz.prog.godebug = none := by kernel_rfl
theorem laidOut : laidOutB Tryz.prog = true := by kernel_rfl
def SAddr.ok : Kn SAddr := fun w x H d => ∃ ds, d = .agg ds ∧ (fun w x H ds => ∃ d r, ds = d :: r ∧ (fun _ _ _ _ => True) w x.1 H d ∧ (fun w a H ds => ∃ d, ds = [d] ∧ (fun w v H d => ∃ ds, d = .agg ds ∧ ∀ i (hi : i < 16) (h2 : i < ds.length), (fun _ _ _ _ => True) w v[i] H ds[i]) w a H d) w x.2 H r) w (SAddr.of x) H ds
theorem opn38 : Opn Tryz.prog 38 eAddr SAddr.ok := opn_struct Tryz.underlying38 (by kernel_rfl) (OpnF.cons rfl (opn_b Tryz.underlying4 (by kernel_rfl)) (OpnF.one rfl (opn_arr (opn_u8 Tryz.underlying5 (by kernel_rfl)) Tryz.underlying36 (by kernel_rfl)))) (fun _ => rfl)
def SPrefix.ok : Kn SPrefix := fun w x H d => ∃ ds, d = .agg ds ∧ (fun w x H ds => ∃ d r, ds = d :: r ∧ SAddr.ok w x.1 H d ∧ (fun w a H ds => ∃ d, ds = [d] ∧ (fun _ n _ _ => Fit n) w a H d) w x.2 H r) w (SPrefix.of x) H ds
theorem opn89 : Opn Tryz.prog 89 ePrefix SPrefix.ok := opn_struct Tryz.underlying89 (by kernel_rfl) (OpnF.cons rfl opn38 (OpnF.one rfl (opn_i Tryz.underlying3 (by kernel_rfl)))) (fun _ => rfl)
def SRoute.ok : Kn SRoute := fun w x H d => ∃ ds, d = .agg ds ∧ (fun w x H ds => ∃ d r, ds = d :: r ∧ SPrefix.ok w x.1 H d ∧ (fun w a H ds => ∃ d, ds = [d] ∧ (fun _ n _ _ => Fit n) w a H d) w x.2 H r) w (SRoute.of x) H ds
theorem opn102 : Opn Tryz.prog 102 eRoute SRoute.ok := opn_struct Tryz.underlying102 (by kernel_rfl) (OpnF.cons rfl opn89 (OpnF.one rfl (opn_i Tryz.underlying3 (by kernel_rfl)))) (fun _ => rfl)
def SSpan.ok : Kn SSpan := fun w x H d => ∃ ds, d = .agg ds ∧ (fun w x H ds => ∃ d r, ds = d :: r ∧ (fun _ _ _ _ => True) w x.1 H d ∧ (fun w a H ds => ∃ d, ds = [d] ∧ (fun _ _ _ _ => True) w a H d) w x.2 H r) w (SSpan.of x) H ds
theorem opn87 : Opn Tryz.prog 87 eSpan SSpan.ok := opn_struct Tryz.underlying87 (by kernel_rfl) (OpnF.cons rfl (opn_u16 Tryz.underlying39 (by kernel_rfl)) (OpnF.one rfl (opn_u16 Tryz.underlying39 (by kernel_rfl)))) (fun _ => rfl)
def SMatch.ok : Kn SMatch := fun w x H d => ∃ ds, d = .agg ds ∧ (fun w x H ds => ∃ d r, ds = d :: r ∧ (fun _ _ _ _ => True) w x.1 H d ∧ (fun w x H ds => ∃ d r, ds = d :: r ∧ SSpan.ok w x.1 H d ∧ (fun w x H ds => ∃ d r, ds = d :: r ∧ SPrefix.ok w x.1 H d ∧ (fun w x H ds => ∃ d r, ds = d :: r ∧ SPrefix.ok w x.1 H d ∧ (fun w x H ds => ∃ d r, ds = d :: r ∧ (fun _ _ _ _ => True) w x.1 H d ∧ (fun w x H ds => ∃ d r, ds = d :: r ∧ SSpan.ok w x.1 H d ∧ (fun w a H ds => ∃ d, ds = [d] ∧ SSpan.ok w a H d) w x.2 H r) w x.2 H r) w x.2 H r) w x.2 H r) w x.2 H r) w x.2 H r) w (SMatch.of x) H ds
theorem opn91 : Opn Tryz.prog 91 eMatch SMatch.ok := opn_struct Tryz.underlying91 (by kernel_rfl) (OpnF.cons rfl (opn_u8 Tryz.underlying5 (by kernel_rfl)) (OpnF.cons rfl opn87 (OpnF.cons rfl opn89 (OpnF.cons rfl opn89 (OpnF.cons rfl (opn_u8 Tryz.underlying5 (by kernel_rfl)) (OpnF.cons rfl opn87 (OpnF.one rfl opn87))))))) (fun _ => rfl)
def SRule.ok : Kn SRule := fun w x H d => ∃ ds, d = .agg ds ∧ (fun w x H ds => ∃ d r, ds = d :: r ∧ (fun _ s _ d => s.size ≤ maxLen ∧ d = .lit (.string s.data.toList)) w x.1 H d ∧ (fun w x H ds => ∃ d r, ds = d :: r ∧ SMatch.ok w x.1 H d ∧ (fun w x H ds => ∃ d r, ds = d :: r ∧ (fun _ n _ _ => Fit n) w x.1 H d ∧ (fun w x H ds => ∃ d r, ds = d :: r ∧ (fun _ n _ _ => Fit n) w x.1 H d ∧ (fun w x H ds => ∃ d r, ds = d :: r ∧ (fun _ s _ d => s.size ≤ maxLen ∧ d = .lit (.string s.data.toList)) w x.1 H d ∧ (fun w a H ds => ∃ d, ds = [d] ∧ (fun _ s _ d => s.size ≤ maxLen ∧ d = .lit (.string s.data.toList)) w a H d) w x.2 H r) w x.2 H r) w x.2 H r) w x.2 H r) w x.2 H r) w (SRule.of x) H ds
theorem opn93 : Opn Tryz.prog 93 eRule SRule.ok := opn_struct Tryz.underlying93 (by kernel_rfl) (OpnF.cons rfl (opn_s Tryz.underlying9 (by kernel_rfl)) (OpnF.cons rfl opn91 (OpnF.cons rfl (opn_i Tryz.underlying3 (by kernel_rfl)) (OpnF.cons rfl (opn_i Tryz.underlying3 (by kernel_rfl)) (OpnF.cons rfl (opn_s Tryz.underlying9 (by kernel_rfl)) (OpnF.one rfl (opn_s Tryz.underlying9 (by kernel_rfl)))))))) (fun _ => rfl)
def SBucket.ok : Kn SBucket := fun w x H d => ∃ ds, d = .agg ds ∧ (fun w x H ds => ∃ d r, ds = d :: r ∧ (fun _ _ _ _ => True) w x.1 H d ∧ (fun w x H ds => ∃ d r, ds = d :: r ∧ (fun _ _ _ _ => True) w x.1 H d ∧ (fun w a H ds => ∃ d, ds = [d] ∧ (fun _ _ _ _ => True) w a H d) w x.2 H r) w x.2 H r) w (SBucket.of x) H ds
theorem opn79 : Opn Tryz.prog 79 eBucket SBucket.ok := opn_struct Tryz.underlying79 (by kernel_rfl) (OpnF.cons rfl (opn_u64 Tryz.underlying77 (by kernel_rfl)) (OpnF.cons rfl (opn_u64 Tryz.underlying77 (by kernel_rfl)) (OpnF.one rfl (opn_u64 Tryz.underlying77 (by kernel_rfl))))) (fun _ => rfl)
def SMeterConf.ok : Kn SMeterConf := fun w x H d => ∃ ds, d = .agg ds ∧ (fun w x H ds => ∃ d r, ds = d :: r ∧ (fun _ s _ d => s.size ≤ maxLen ∧ d = .lit (.string s.data.toList)) w x.1 H d ∧ (fun w a H ds => ∃ d, ds = [d] ∧ SBucket.ok w a H d) w x.2 H r) w (SMeterConf.of x) H ds
theorem opn81 : Opn Tryz.prog 81 eMeterConf SMeterConf.ok := opn_struct Tryz.underlying81 (by kernel_rfl) (OpnF.cons rfl (opn_s Tryz.underlying9 (by kernel_rfl)) (OpnF.one rfl opn79)) (fun _ => rfl)
def SMirrorConf.ok : Kn SMirrorConf := fun w x H d => ∃ ds, d = .agg ds ∧ (fun w x H ds => ∃ d r, ds = d :: r ∧ (fun _ s _ d => s.size ≤ maxLen ∧ d = .lit (.string s.data.toList)) w x.1 H d ∧ (fun w x H ds => ∃ d r, ds = d :: r ∧ (fun _ n _ _ => Fit n) w x.1 H d ∧ (fun w a H ds => ∃ d, ds = [d] ∧ (fun _ n _ _ => Fit n) w a H d) w x.2 H r) w x.2 H r) w (SMirrorConf.of x) H ds
theorem opn83 : Opn Tryz.prog 83 eMirrorConf SMirrorConf.ok := opn_struct Tryz.underlying83 (by kernel_rfl) (OpnF.cons rfl (opn_s Tryz.underlying9 (by kernel_rfl)) (OpnF.cons rfl (opn_i Tryz.underlying3 (by kernel_rfl)) (OpnF.one rfl (opn_i Tryz.underlying3 (by kernel_rfl))))) (fun _ => rfl)
def SConf.ok : Kn SConf := fun w x H d => ∃ ds, d = .agg ds ∧ (fun w x H ds => ∃ d r, ds = d :: r ∧ (SlQ iE (fun _ n _ _ => Fit n)) w x.1 H d ∧ (fun w x H ds => ∃ d r, ds = d :: r ∧ (SlQ eRoute SRoute.ok) w x.1 H d ∧ (fun w x H ds => ∃ d r, ds = d :: r ∧ (SlQ eRule SRule.ok) w x.1 H d ∧ (fun w x H ds => ∃ d r, ds = d :: r ∧ (SlQ eMeterConf SMeterConf.ok) w x.1 H d ∧ (fun w x H ds => ∃ d r, ds = d :: r ∧ (SlQ eMirrorConf SMirrorConf.ok) w x.1 H d ∧ (fun w a H ds => ∃ d, ds = [d] ∧ (fun _ n _ _ => Fit n) w a H d) w x.2 H r) w x.2 H r) w x.2 H r) w x.2 H r) w x.2 H r) w (SConf.of x) H ds
theorem opn28 : Opn Tryz.prog 28 eConf SConf.ok := opn_struct Tryz.underlying28 (by kernel_rfl) (OpnF.cons rfl (opn_sl (opn_i Tryz.underlying3 (by kernel_rfl)) Tryz.underlying22 (by kernel_rfl) rfl) (OpnF.cons rfl (opn_sl opn102 Tryz.underlying23 (by kernel_rfl) rfl) (OpnF.cons rfl (opn_sl opn93 Tryz.underlying24 (by kernel_rfl) rfl) (OpnF.cons rfl (opn_sl opn81 Tryz.underlying25 (by kernel_rfl) rfl) (OpnF.cons rfl (opn_sl opn83 Tryz.underlying26 (by kernel_rfl) rfl) (OpnF.one rfl (opn_i Tryz.underlying3 (by kernel_rfl)))))))) (fun _ => rfl)
theorem name_of {w : World} {H : Type} {α : Type} {xs : List α} {ds : List (DataW H)} {Q : World → α → DataW H → Prop} {f : α → ByteArray} (hl : xs.length = ds.length) (hq : ∀ i (h1 : i < xs.length) (h2 : i < ds.length), Q w xs[i] ds[i]) (hf : ∀ w x d, Q w x d → (f x).size ≤ 9223372036854775807) : ∀ x ∈ xs, (f x).size ≤ 9223372036854775807 := fun x hx => by
  obtain ⟨i, hi, rfl⟩ := List.mem_iff_getElem.1 hx
  exact hf _ _ _ (hq i hi (by omega))
theorem conf_open {H : Type} {w : World} {c : SConf} {d : DataW H} (hq : SConf.ok w c H d) : ∃ l : CL, ConfAt w c l ∧ l.Names := by
  obtain ⟨ds0, rfl, d1, r1, rfl, q1, d2, r2, rfl, q2, d3, r3, rfl, q3, d4, r4, rfl, q4, d5, r5, rfl, q5, _⟩ := hq
  obtain ⟨ps, e1, h1, _⟩ := q1
  obtain ⟨rs, e2, h2, _⟩ := q2
  obtain ⟨us, e3, h3, _, l3, n3⟩ := q3
  obtain ⟨ms, e4, h4, _, l4, n4⟩ := q4
  obtain ⟨xs, e5, h5, _, l5, n5⟩ := q5
  refine ⟨⟨ps, rs, us, ms, xs⟩, ⟨h1, h2, h3, h4, h5⟩, ⟨?_, ?_, ?_⟩⟩
  · exact name_of (Q := fun w x d => SRule.ok w x H d) l3 n3 (fun w x d ⟨_, _, _, _, _, h, _⟩ => h.1)
  · exact name_of (Q := fun w x d => SMeterConf.ok w x H d) l4 n4 (fun w x d ⟨_, _, _, _, _, h, _⟩ => h.1)
  · exact name_of (Q := fun w x d => SMirrorConf.ok w x H d) l5 n5 (fun w x d ⟨_, _, _, _, _, h, _⟩ => h.1)
theorem slD_size {H : Type} {d : DataW H} {es : List (DataW H)} {ts : List TypeId} {ds : List (DataW H)} (h2 : SlD d es) (hz : (DataW.weightsEach Tryz.prog ts ds).all (· ≤ reachBytes) = true) {j n : Nat} {t e : TypeId} (ht : ts[j]? = some t) (hd : ds[j]? = some d) (hu : Tryz.prog.underlying t = some (.slice e)) (hb : Tryz.prog.bytesOf e = n) : es.length * n ≤ 140737488351232 := by
  rcases h2 with rfl | ⟨sp, rfl⟩
  · simp
  · have h5 := sized_slice hz ht hd hu
    rw [hb] at h5
    have h6 : reachBytes = 140737488351232 := by decide
    rw [h6] at h5
    have h7 : es.length * n ≤ (es.length + sp.length) * n := Nat.mul_le_mul_right _ (by omega)
    omega
theorem conf_sized {H : Type} {w : World} {c : SConf} {d : DataW H} {ts : List TypeId} {ds : List (DataW H)} (hq : SConf.ok w c H d) (hz : (DataW.weightsEach Tryz.prog ts ds).all (· ≤ reachBytes) = true) {j : Nat} (ht : ts[j]? = some 28) (hd : ds[j]? = some d) : ∃ l : CL, ConfAt w c l ∧ l.Names ∧ l.n ≤ 4611686018427387904 := by
  obtain ⟨ds0, rfl, d1, r1, rfl, q1, d2, r2, rfl, q2, d3, r3, rfl, q3, d4, r4, rfl, q4, d5, r5, rfl, q5, _⟩ := hq
  have hz2 := sized_agg hz ht hd Tryz.underlying28
  obtain ⟨ps, e1, h1, g1, l1, _⟩ := q1
  obtain ⟨rs, e2, h2, g2, l2, _⟩ := q2
  obtain ⟨us, e3, h3, g3, l3, n3⟩ := q3
  obtain ⟨ms, e4, h4, g4, l4, n4⟩ := q4
  obtain ⟨xs, e5, h5, g5, l5, n5⟩ := q5
  have z1 := slD_size g1 hz2 (j := 0) (by kernel_rfl) rfl Tryz.underlying22 (by kernel_rfl : Tryz.prog.bytesOf 3 = 8)
  have z2 := slD_size g2 hz2 (j := 1) (by kernel_rfl) rfl Tryz.underlying23 (by kernel_rfl : Tryz.prog.bytesOf 102 = 40)
  have z3 := slD_size g3 hz2 (j := 2) (by kernel_rfl) rfl Tryz.underlying24 (by kernel_rfl : Tryz.prog.bytesOf 93 = 152)
  have z4 := slD_size g4 hz2 (j := 3) (by kernel_rfl) rfl Tryz.underlying25 (by kernel_rfl : Tryz.prog.bytesOf 81 = 40)
  have z5 := slD_size g5 hz2 (j := 4) (by kernel_rfl) rfl Tryz.underlying26 (by kernel_rfl : Tryz.prog.bytesOf 83 = 32)
  refine ⟨⟨ps, rs, us, ms, xs⟩, ⟨h1, h2, h3, h4, h5⟩, ⟨?_, ?_, ?_⟩, ?_⟩
  · exact name_of (Q := fun w x d => SRule.ok w x H d) l3 n3 (fun w x d ⟨_, _, _, _, _, h, _⟩ => h.1)
  · exact name_of (Q := fun w x d => SMeterConf.ok w x H d) l4 n4 (fun w x d ⟨_, _, _, _, _, h, _⟩ => h.1)
  · exact name_of (Q := fun w x d => SMirrorConf.ok w x H d) l5 n5 (fun w x d ⟨_, _, _, _, _, h, _⟩ => h.1)
  · show ps.length + rs.length + us.length + ms.length + xs.length ≤ _
    omega
def SHeader.ok : Kn SHeader := fun w x H d => ∃ ds, d = .agg ds ∧ (fun w x H ds => ∃ d r, ds = d :: r ∧ SAddr.ok w x.1 H d ∧ (fun w x H ds => ∃ d r, ds = d :: r ∧ SAddr.ok w x.1 H d ∧ (fun w x H ds => ∃ d r, ds = d :: r ∧ (fun _ _ _ _ => True) w x.1 H d ∧ (fun w x H ds => ∃ d r, ds = d :: r ∧ (fun _ _ _ _ => True) w x.1 H d ∧ (fun w x H ds => ∃ d r, ds = d :: r ∧ (fun _ _ _ _ => True) w x.1 H d ∧ (fun w x H ds => ∃ d r, ds = d :: r ∧ (fun _ _ _ _ => True) w x.1 H d ∧ (fun w x H ds => ∃ d r, ds = d :: r ∧ (fun _ _ _ _ => True) w x.1 H d ∧ (fun w x H ds => ∃ d r, ds = d :: r ∧ (fun _ _ _ _ => True) w x.1 H d ∧ (fun w x H ds => ∃ d r, ds = d :: r ∧ (fun _ _ _ _ => True) w x.1 H d ∧ (fun w x H ds => ∃ d r, ds = d :: r ∧ (fun _ _ _ _ => True) w x.1 H d ∧ (fun w a H ds => ∃ d, ds = [d] ∧ (SlQ u8E (fun _ _ _ _ => True)) w a H d) w x.2 H r) w x.2 H r) w x.2 H r) w x.2 H r) w x.2 H r) w x.2 H r) w x.2 H r) w x.2 H r) w x.2 H r) w x.2 H r) w (SHeader.of x) H ds
theorem opn43 : Opn Tryz.prog 43 eHeader SHeader.ok := opn_struct Tryz.underlying43 (by kernel_rfl) (OpnF.cons rfl opn38 (OpnF.cons rfl opn38 (OpnF.cons rfl (opn_u8 Tryz.underlying5 (by kernel_rfl)) (OpnF.cons rfl (opn_u16 Tryz.underlying39 (by kernel_rfl)) (OpnF.cons rfl (opn_u16 Tryz.underlying39 (by kernel_rfl)) (OpnF.cons rfl (opn_u8 Tryz.underlying5 (by kernel_rfl)) (OpnF.cons rfl (opn_u8 Tryz.underlying5 (by kernel_rfl)) (OpnF.cons rfl (opn_u32 Tryz.underlying40 (by kernel_rfl)) (OpnF.cons rfl (opn_u8 Tryz.underlying5 (by kernel_rfl)) (OpnF.cons rfl (opn_u32 Tryz.underlying40 (by kernel_rfl)) (OpnF.one rfl (opn_sl (opn_u8 Tryz.underlying5 (by kernel_rfl)) Tryz.underlying41 (by kernel_rfl) rfl)))))))))))) (fun _ => rfl)
def SLaw22Came.ok : Kn SLaw22Came := fun w x H d => ∃ ds, d = .agg ds ∧ (fun w x H ds => ∃ d r, ds = d :: r ∧ (fun _ n _ _ => Fit n) w x.1 H d ∧ (fun w a H ds => ∃ d, ds = [d] ∧ SHeader.ok w a H d) w x.2 H r) w (SLaw22Came.of x) H ds
theorem opn45 : Opn Tryz.prog 45 eLaw22Came SLaw22Came.ok := opn_struct Tryz.underlying45 (by kernel_rfl) (OpnF.cons rfl (opn_i Tryz.underlying3 (by kernel_rfl)) (OpnF.one rfl opn43)) (fun _ => rfl)
theorem header_sized {w : World} {h : SHeader} {H : Type} {d : DataW H} {ts : List TypeId} {ds : List (DataW H)} (hq : SHeader.ok w h H d) (hz : (DataW.weightsEach Tryz.prog ts ds).all (· ≤ reachBytes) = true) {j : Nat} (ht : ts[j]? = some 43) (hd : ds[j]? = some d) :
    ∃ xs, IsSl u8E w h.data.v xs ∧ xs.length * 1 ≤ 140737488351232 := by
  obtain ⟨ds0, rfl, d1, r1, rfl, _, d2, r2, rfl, _, d3, r3, rfl, _, d4, r4, rfl, _, d5, r5, rfl, _, d6, r6, rfl, _, d7, r7, rfl, _, d8, r8, rfl, _, d9, r9, rfl, _, d10, r10, rfl, _, d11, rfl, hq⟩ := hq
  have hz2 := sized_agg hz ht hd Tryz.underlying43
  exact SlQ.sized hq hz2 (j := 10) (by kernel_rfl) rfl Tryz.underlying41 (by kernel_rfl : Tryz.prog.bytesOf 5 = 1)
theorem mem_weightsAll {H : Type} {P : Program} {e : TypeId} : ∀ (es : List (DataW H)) {i : Nat} (hi : i < es.length) {n : Nat}, n ∈ DataW.weights P e es[i] → n ∈ DataW.weightsAll P e es
  | d :: r, 0, _, n, h => by
    rw [DataW.weightsAll]
    exact List.mem_append_left _ h
  | d :: r, i + 1, hi, n, h => by
    rw [DataW.weightsAll]
    exact List.mem_append_right _ (mem_weightsAll r (i := i) (by simpa using hi) (by simpa using h))
theorem sized_el {H : Type} {P : Program} {ts : List TypeId} {ds es sp : List (DataW H)} {t e : TypeId} (hz : (DataW.weightsEach P ts ds).all (· ≤ reachBytes) = true) {j : Nat} (ht : ts[j]? = some t) (hd : ds[j]? = some (.slice es sp)) (hu : P.underlying t = some (.slice e)) {i : Nat} (hi : i < es.length) : (DataW.weightsEach P [e] [es[i]]).all (· ≤ reachBytes) = true :=
  List.all_eq_true.2 fun n hn => List.all_eq_true.1 hz n (DataW.weights_mem_each ht hd n (by
    have h1 : n ∈ DataW.weights P e es[i] := by simpa [DataW.weightsEach] using hn
    have h2 := mem_weightsAll es hi h1
    simp only [DataW.weights, hu]
    exact List.mem_cons_of_mem _ (List.mem_append_left _ h2)))
theorem pks_sized {H : Type} {w : World} {o : OV} {d : DataW H} {ts : List TypeId} {ds : List (DataW H)} (hq : SlQ eLaw22Came SLaw22Came.ok w o H d) (hz : (DataW.weightsEach Tryz.prog ts ds).all (· ≤ reachBytes) = true) {j : Nat} (ht : ts[j]? = some 29) (hd : ds[j]? = some d) : ∃ (xs : List SLaw22Came) (dts : List (List UInt8)), IsSl eLaw22Came w o.v xs ∧ PksAt w xs dts := by
  obtain ⟨cs, es, h1, h2, h3, h4⟩ := hq
  have key : ∀ i, i < cs.length → ∃ dt : List UInt8, IsSl u8E w (cs.getD i eLaw22Came.zero).h.data.v dt ∧ dt.length ≤ 1152921504606846975 := fun i hi => by
    rcases h2 with rfl | ⟨sp, rfl⟩
    · simp only [List.length_nil] at h3
      omega
    · have e : cs.getD i eLaw22Came.zero = cs[i] := by simp [List.getD, hi]
      rw [e]
      have hz1 := sized_el hz ht hd Tryz.underlying29 (i := i) (by omega)
      obtain ⟨ds0, e0, d1, r1, e1, q1, d2, e2, q2⟩ := h4 i hi (by omega)
      have hz2 := sized_agg hz1 (j := 0) rfl (congrArg some e0) Tryz.underlying45
      subst e1 e2
      obtain ⟨dt, g1, g2⟩ := header_sized q2 hz2 (j := 1) (by kernel_rfl) rfl
      exact ⟨dt, g1, by omega⟩
  obtain ⟨f, hf⟩ : ∃ f : Nat → List UInt8, ∀ i, i < cs.length → IsSl u8E w (cs.getD i eLaw22Came.zero).h.data.v (f i) ∧ (f i).length ≤ 1152921504606846975 :=
    ⟨fun i => if h : i < cs.length then (key i h).choose else [], fun i hi => by
      simp only [dif_pos hi]
      exact (key i hi).choose_spec⟩
  have hg : ∀ i, i < cs.length → ((List.range cs.length).map f).getD i [] = f i := fun i hi => by simp [List.getD, hi]
  exact ⟨cs, (List.range cs.length).map f, h1, ⟨fun i hi => by rw [hg i hi]; exact (hf i hi).1, fun i hi => by rw [hg i hi]; exact (hf i hi).2⟩⟩
set_option maxRecDepth 100000 in
theorem planLike_contract (H : Type) (enc : TypeId × Value → H) (W : World) (base : Nat) (args : Array Value) (ds gs : List (DataW H)) (before : List MemPlace)
    (hval0 : ∀ (j : Nat) t v, Tryz.f3.params[j]? = some t → args[j]? = some v → Value.okWide Tryz.prog W .any base t v)
    (hW : DataW.Whole enc Tryz.prog Tryz.f3.params.toList Rows.planLikeSpec.vars false W args.toList ds gs before) (hsz : (DataW.weightsEach Tryz.prog (Tryz.f3.params.toList ++ Rows.planLikeSpec.plain.varTypes Tryz.prog) (ds ++ gs)).all (· ≤ reachBytes) = true) :
    Calls Tryz.prog 3 args W fun e W' => ∃ v, e = .returned v ∧ Rows.planLikeSpec.post enc Tryz.prog Tryz.f3 false true false false W args v W' := by
  have hval : ∀ (j : Nat) t v, Tryz.f3.params[j]? = some t → args[j]? = some v → Value.okWide Tryz.prog W .any base t v := hval0
  have hW' := hW
  obtain ⟨p, q, hA0, hV, rfl, hfz, hnd⟩ := hW
  have hA : DataW.TrodAll enc Tryz.prog W 0 (fun _ => true) true Tryz.f3.params.toList args.toList ds p := hA0
  rw [Tryz.params3] at hA hval
  obtain ⟨v0, vs0, d0, ds0, p0, r0, hargs, rfl, rfl, h0, t0⟩ := trodAll_cons hA
  obtain ⟨v1, vs1, d1, ds1, p1, r1, rfl, rfl, rfl, h1, t1⟩ := trodAll_cons t0
  obtain ⟨v2, vs2, d2, ds2, p2, r2, rfl, rfl, rfl, h2, t2⟩ := trodAll_cons t1
  obtain ⟨rfl, rfl, rfl⟩ := trodAll_nil t2
  obtain rfl : args = #[v0, v1, v2] := by cases args; simp_all
  obtain ⟨rfl, rfl⟩ := trodVars_none hV
  have k0 := h0
  have lt0 : ∀ x ∈ p0, x.block < W.heap.size := by obtain ⟨m, hm⟩ := k0; exact DataW.trod_lt m _ _ _ hm
  obtain ⟨a0, rfl, q0⟩ := Opn.open opn28 (hval 0 28 v0 rfl rfl) h0
  have k1 := h1
  have lt1 : ∀ x ∈ p1, x.block < W.heap.size := by obtain ⟨m, hm⟩ := k1; exact DataW.trod_lt m _ _ _ hm
  obtain ⟨a1, rfl, q1⟩ := Opn.open opn28 (hval 1 28 v1 rfl rfl) h1
  have k2 := h2
  have lt2 : ∀ x ∈ p2, x.block < W.heap.size := by obtain ⟨m, hm⟩ := k2; exact DataW.trod_lt m _ _ _ hm
  obtain ⟨a2, rfl, q2⟩ := Opn.open (opn_sl opn45 Tryz.underlying29 (by kernel_rfl) rfl) (hval 2 29 v2 rfl rfl) h2
  clear hA0 hval0
  obtain ⟨l0, hc0, hn0, hz0⟩ := conf_sized q0 hsz (j := 0) rfl rfl
  obtain ⟨l1, hc1, hn1, hz1⟩ := conf_sized q1 hsz (j := 1) rfl rfl
  obtain ⟨xs2, dts2, hx2, hpk2⟩ := pks_sized q2 hsz (j := 2) rfl rfl
  refine (PlanLike_walk a0 a1 l0 l1 a2.v xs2 dts2 W hc0 hn0 hz0 hc1 hn1 hz1 hx2 hpk2).mono fun e W' he => ?_
  obtain ⟨rfl, bel⟩ := he.below
  exact ⟨_, rfl, _, _, _, [], _, [], hW', trodAll_mk1 (shut_bool Tryz.underlying4 _), (trodAll_cons_mk (Below.trod laidOut (by kernel_rfl) (of_decide_eq_true (by kernel_rfl)) k0 bel lt0) (trodAll_cons_mk (Below.trod laidOut (by kernel_rfl) (of_decide_eq_true (by kernel_rfl)) k1 bel lt1) (trodAll_cons_mk (Below.trod laidOut (by kernel_rfl) (of_decide_eq_true (by kernel_rfl)) k2 bel lt2) trodAll_mk0))), rfl, bel.frame _, fun h => by cases h⟩
set_option maxRecDepth 100000 in
theorem planLike_lifted (os : Os) (started : os.Started) (H : Type) (enc : TypeId × Value → H) :
    ReturnsInHanded {} Tryz.checked os 3 .any (Rows.planLikeSpec.pre6 enc Tryz.prog Tryz.f3 Rows.planLikeRow.domain false) (Rows.planLikeSpec.post enc Tryz.prog Tryz.f3 false true false false) := by
  refine returnsInHanded_of_change_sized (C := Tryz.checked) own started (by kernel_rfl) Tryz.func3
    (ChangeSpec.witness6 (enc := enc) (C := Tryz.checked) false ⟨#[], #[eConf.val eConf.zero, eConf.val eConf.zero, (ovE nilSl).val (ovE nilSl).zero], []⟩ 8 (by kernel_rfl) (by kernel_rfl) (by kernel_rfl) (by kernel_rfl)) ?_
  intro W base args ds gs before hval hW _ hsz _
  exact planLike_contract H enc W base args ds gs before hval hW hsz
theorem claimPlanLike : Rows.PlanLikeSaid :=
  OpenClaim.holds_of_wide 3 Tryz.f3 rfl rfl rfl rfl rfl rfl rfl ⟨rfl, rfl, rfl, rfl, rfl⟩ rfl rfl rfl rfl rfl (by kernel_rfl) Tryz.func3 (by kernel_rfl)
    (of_decide_eq_true (by kernel_rfl)) (by unfold Func.isWrapper; first | (rw [if_pos (by decide +kernel)]; kernel_rfl) | (rw [if_neg (by decide +kernel)]; exact ⟨rfl, rfl⟩))
    (fun os started H enc _ => planLike_lifted os started H enc)
end Go.Proofs.YtmdkmclgfgaahaaGreat
