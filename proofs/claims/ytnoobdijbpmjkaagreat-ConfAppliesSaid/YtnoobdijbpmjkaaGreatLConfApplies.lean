/- Of any configuration and changes what comes of them. No conditions. -/
import Derived.Test.YtnoobdijbpmjkaaGreatM5
import Derived.Test.YtnoobdijbpmjkaaGreatHxG
set_option linter.unusedVariables false
set_option linter.unusedSimpArgs false
namespace Go.Proofs.YtnoobdijbpmjkaaGreat
open Go.ChangeShapes Go.WideShapes Go.ChangeAt Go.RowKit
open Go Go.Gx
theorem own : ownKnob Tryz.prog.godebug = none := by kernel_rfl
theorem laidOut : laidOutB Tryz.prog = true := by kernel_rfl
def SAddr.ok : Kn SAddr := fun w x H d => ∃ ds, d = .agg ds ∧ (fun w x H ds => ∃ d r, ds = d :: r ∧ (fun _ _ _ _ => True) w x.1 H d ∧ (fun w a H ds => ∃ d, ds = [d] ∧ (fun w v H d => ∃ ds, d = .agg ds ∧ ∀ i (hi : i < 16) (h2 : i < ds.length), (fun _ _ _ _ => True) w v[i] H ds[i]) w a H d) w x.2 H r) w (SAddr.of x) H ds
theorem opn48 : Opn Tryz.prog 48 eAddr SAddr.ok := opn_struct Tryz.underlying48 (by kernel_rfl) (OpnF.cons rfl (opn_b Tryz.underlying4 (by kernel_rfl)) (OpnF.one rfl (opn_arr (opn_u8 Tryz.underlying5 (by kernel_rfl)) Tryz.underlying46 (by kernel_rfl)))) (fun _ => rfl)
def SPrefix.ok : Kn SPrefix := fun w x H d => ∃ ds, d = .agg ds ∧ (fun w x H ds => ∃ d r, ds = d :: r ∧ SAddr.ok w x.1 H d ∧ (fun w a H ds => ∃ d, ds = [d] ∧ (fun _ n _ _ => Fit n) w a H d) w x.2 H r) w (SPrefix.of x) H ds
theorem opn50 : Opn Tryz.prog 50 ePrefix SPrefix.ok := opn_struct Tryz.underlying50 (by kernel_rfl) (OpnF.cons rfl opn48 (OpnF.one rfl (opn_i Tryz.underlying3 (by kernel_rfl)))) (fun _ => rfl)
def SRoute.ok : Kn SRoute := fun w x H d => ∃ ds, d = .agg ds ∧ (fun w x H ds => ∃ d r, ds = d :: r ∧ SPrefix.ok w x.1 H d ∧ (fun w a H ds => ∃ d, ds = [d] ∧ (fun _ n _ _ => Fit n) w a H d) w x.2 H r) w (SRoute.of x) H ds
theorem opn52 : Opn Tryz.prog 52 eRoute SRoute.ok := opn_struct Tryz.underlying52 (by kernel_rfl) (OpnF.cons rfl opn50 (OpnF.one rfl (opn_i Tryz.underlying3 (by kernel_rfl)))) (fun _ => rfl)
def SSpan.ok : Kn SSpan := fun w x H d => ∃ ds, d = .agg ds ∧ (fun w x H ds => ∃ d r, ds = d :: r ∧ (fun _ _ _ _ => True) w x.1 H d ∧ (fun w a H ds => ∃ d, ds = [d] ∧ (fun _ _ _ _ => True) w a H d) w x.2 H r) w (SSpan.of x) H ds
theorem opn72 : Opn Tryz.prog 72 eSpan SSpan.ok := opn_struct Tryz.underlying72 (by kernel_rfl) (OpnF.cons rfl (opn_u16 Tryz.underlying70 (by kernel_rfl)) (OpnF.one rfl (opn_u16 Tryz.underlying70 (by kernel_rfl)))) (fun _ => rfl)
def SMatch.ok : Kn SMatch := fun w x H d => ∃ ds, d = .agg ds ∧ (fun w x H ds => ∃ d r, ds = d :: r ∧ (fun _ _ _ _ => True) w x.1 H d ∧ (fun w x H ds => ∃ d r, ds = d :: r ∧ SSpan.ok w x.1 H d ∧ (fun w x H ds => ∃ d r, ds = d :: r ∧ SPrefix.ok w x.1 H d ∧ (fun w x H ds => ∃ d r, ds = d :: r ∧ SPrefix.ok w x.1 H d ∧ (fun w x H ds => ∃ d r, ds = d :: r ∧ (fun _ _ _ _ => True) w x.1 H d ∧ (fun w x H ds => ∃ d r, ds = d :: r ∧ SSpan.ok w x.1 H d ∧ (fun w a H ds => ∃ d, ds = [d] ∧ SSpan.ok w a H d) w x.2 H r) w x.2 H r) w x.2 H r) w x.2 H r) w x.2 H r) w x.2 H r) w (SMatch.of x) H ds
theorem opn74 : Opn Tryz.prog 74 eMatch SMatch.ok := opn_struct Tryz.underlying74 (by kernel_rfl) (OpnF.cons rfl (opn_u8 Tryz.underlying5 (by kernel_rfl)) (OpnF.cons rfl opn72 (OpnF.cons rfl opn50 (OpnF.cons rfl opn50 (OpnF.cons rfl (opn_u8 Tryz.underlying5 (by kernel_rfl)) (OpnF.cons rfl opn72 (OpnF.one rfl opn72))))))) (fun _ => rfl)
def SRule.ok : Kn SRule := fun w x H d => ∃ ds, d = .agg ds ∧ (fun w x H ds => ∃ d r, ds = d :: r ∧ (fun _ s _ d => s.size ≤ maxLen ∧ d = .lit (.string s.data.toList)) w x.1 H d ∧ (fun w x H ds => ∃ d r, ds = d :: r ∧ SMatch.ok w x.1 H d ∧ (fun w x H ds => ∃ d r, ds = d :: r ∧ (fun _ n _ _ => Fit n) w x.1 H d ∧ (fun w x H ds => ∃ d r, ds = d :: r ∧ (fun _ n _ _ => Fit n) w x.1 H d ∧ (fun w x H ds => ∃ d r, ds = d :: r ∧ (fun _ s _ d => s.size ≤ maxLen ∧ d = .lit (.string s.data.toList)) w x.1 H d ∧ (fun w a H ds => ∃ d, ds = [d] ∧ (fun _ s _ d => s.size ≤ maxLen ∧ d = .lit (.string s.data.toList)) w a H d) w x.2 H r) w x.2 H r) w x.2 H r) w x.2 H r) w x.2 H r) w (SRule.of x) H ds
theorem opn76 : Opn Tryz.prog 76 eRule SRule.ok := opn_struct Tryz.underlying76 (by kernel_rfl) (OpnF.cons rfl (opn_s Tryz.underlying9 (by kernel_rfl)) (OpnF.cons rfl opn74 (OpnF.cons rfl (opn_i Tryz.underlying3 (by kernel_rfl)) (OpnF.cons rfl (opn_i Tryz.underlying3 (by kernel_rfl)) (OpnF.cons rfl (opn_s Tryz.underlying9 (by kernel_rfl)) (OpnF.one rfl (opn_s Tryz.underlying9 (by kernel_rfl)))))))) (fun _ => rfl)
def SBucket.ok : Kn SBucket := fun w x H d => ∃ ds, d = .agg ds ∧ (fun w x H ds => ∃ d r, ds = d :: r ∧ (fun _ _ _ _ => True) w x.1 H d ∧ (fun w x H ds => ∃ d r, ds = d :: r ∧ (fun _ _ _ _ => True) w x.1 H d ∧ (fun w a H ds => ∃ d, ds = [d] ∧ (fun _ _ _ _ => True) w a H d) w x.2 H r) w x.2 H r) w (SBucket.of x) H ds
theorem opn55 : Opn Tryz.prog 55 eBucket SBucket.ok := opn_struct Tryz.underlying55 (by kernel_rfl) (OpnF.cons rfl (opn_u64 Tryz.underlying53 (by kernel_rfl)) (OpnF.cons rfl (opn_u64 Tryz.underlying53 (by kernel_rfl)) (OpnF.one rfl (opn_u64 Tryz.underlying53 (by kernel_rfl))))) (fun _ => rfl)
def SMeterConf.ok : Kn SMeterConf := fun w x H d => ∃ ds, d = .agg ds ∧ (fun w x H ds => ∃ d r, ds = d :: r ∧ (fun _ s _ d => s.size ≤ maxLen ∧ d = .lit (.string s.data.toList)) w x.1 H d ∧ (fun w a H ds => ∃ d, ds = [d] ∧ SBucket.ok w a H d) w x.2 H r) w (SMeterConf.of x) H ds
theorem opn57 : Opn Tryz.prog 57 eMeterConf SMeterConf.ok := opn_struct Tryz.underlying57 (by kernel_rfl) (OpnF.cons rfl (opn_s Tryz.underlying9 (by kernel_rfl)) (OpnF.one rfl opn55)) (fun _ => rfl)
def SMirrorConf.ok : Kn SMirrorConf := fun w x H d => ∃ ds, d = .agg ds ∧ (fun w x H ds => ∃ d r, ds = d :: r ∧ (fun _ s _ d => s.size ≤ maxLen ∧ d = .lit (.string s.data.toList)) w x.1 H d ∧ (fun w x H ds => ∃ d r, ds = d :: r ∧ (fun _ n _ _ => Fit n) w x.1 H d ∧ (fun w a H ds => ∃ d, ds = [d] ∧ (fun _ n _ _ => Fit n) w a H d) w x.2 H r) w x.2 H r) w (SMirrorConf.of x) H ds
theorem opn59 : Opn Tryz.prog 59 eMirrorConf SMirrorConf.ok := opn_struct Tryz.underlying59 (by kernel_rfl) (OpnF.cons rfl (opn_s Tryz.underlying9 (by kernel_rfl)) (OpnF.cons rfl (opn_i Tryz.underlying3 (by kernel_rfl)) (OpnF.one rfl (opn_i Tryz.underlying3 (by kernel_rfl))))) (fun _ => rfl)
def SConf.ok : Kn SConf := fun w x H d => ∃ ds, d = .agg ds ∧ (fun w x H ds => ∃ d r, ds = d :: r ∧ (SlQ iE (fun _ n _ _ => Fit n)) w x.1 H d ∧ (fun w x H ds => ∃ d r, ds = d :: r ∧ (SlQ eRoute SRoute.ok) w x.1 H d ∧ (fun w x H ds => ∃ d r, ds = d :: r ∧ (SlQ eRule SRule.ok) w x.1 H d ∧ (fun w x H ds => ∃ d r, ds = d :: r ∧ (SlQ eMeterConf SMeterConf.ok) w x.1 H d ∧ (fun w x H ds => ∃ d r, ds = d :: r ∧ (SlQ eMirrorConf SMirrorConf.ok) w x.1 H d ∧ (fun w a H ds => ∃ d, ds = [d] ∧ (fun _ n _ _ => Fit n) w a H d) w x.2 H r) w x.2 H r) w x.2 H r) w x.2 H r) w x.2 H r) w (SConf.of x) H ds
theorem opn28 : Opn Tryz.prog 28 eConf SConf.ok := opn_struct Tryz.underlying28 (by kernel_rfl) (OpnF.cons rfl (opn_sl (opn_i Tryz.underlying3 (by kernel_rfl)) Tryz.underlying22 (by kernel_rfl) rfl) (OpnF.cons rfl (opn_sl opn52 Tryz.underlying23 (by kernel_rfl) rfl) (OpnF.cons rfl (opn_sl opn76 Tryz.underlying24 (by kernel_rfl) rfl) (OpnF.cons rfl (opn_sl opn57 Tryz.underlying25 (by kernel_rfl) rfl) (OpnF.cons rfl (opn_sl opn59 Tryz.underlying26 (by kernel_rfl) rfl) (OpnF.one rfl (opn_i Tryz.underlying3 (by kernel_rfl)))))))) (fun _ => rfl)
theorem name_of {w : World} {H : Type} {α : Type} {xs : List α} {ds : List (DataW H)} {Q : World → α → DataW H → Prop} {f : α → ByteArray} (hl : xs.length = ds.length) (hq : ∀ i (h1 : i < xs.length) (h2 : i < ds.length), Q w xs[i] ds[i]) (hf : ∀ w x d, Q w x d → (f x).size ≤ 9223372036854775807) : ∀ x ∈ xs, (f x).size ≤ 9223372036854775807 := fun x hx => by
  obtain ⟨i, hi, rfl⟩ := List.mem_iff_getElem.1 hx
  exact hf _ _ _ (hq i hi (by omega))
theorem conf_open {H : Type} {w : World} {c : SConf} {d : DataW H} (hq : SConf.ok w c H d) : ∃ l : CL, ConfAt w c l ∧ l.Names := by
  obtain ⟨ds0, rfl, d1, r1, rfl, q1, d2, r2, rfl, q2, d3, r3, rfl, q3, d4, r4, rfl, q4, d5, r5, rfl, q5, _⟩ := hq
  obtain ⟨ps, e1, h1, _⟩ := q1
  obtain ⟨rs, e2, h2, _⟩ := q2
  obtain ⟨us, e3, h3, _, l3, n3⟩ := q3
  obtain ⟨ms, e4, h4, _, l4, n4⟩ := q4
  obtain ⟨xs, e5, h5, _, l5, n5⟩ := q5
  refine ⟨⟨ps, rs, us, ms, xs⟩, ⟨h1, h2, h3, h4, h5⟩, ⟨?_, ?_, ?_⟩⟩
  · exact name_of (Q := fun w x d => SRule.ok w x H d) l3 n3 (fun w x d ⟨_, _, _, _, _, h, _⟩ => h.1)
  · exact name_of (Q := fun w x d => SMeterConf.ok w x H d) l4 n4 (fun w x d ⟨_, _, _, _, _, h, _⟩ => h.1)
  · exact name_of (Q := fun w x d => SMirrorConf.ok w x H d) l5 n5 (fun w x d ⟨_, _, _, _, _, h, _⟩ => h.1)
theorem slD_size {H : Type} {d : DataW H} {es : List (DataW H)} {ts : List TypeId} {ds : List (DataW H)} (h2 : SlD d es) (hz : (DataW.weightsEach Tryz.prog ts ds).all (· ≤ reachBytes) = true) {j n : Nat} {t e : TypeId} (ht : ts[j]? = some t) (hd : ds[j]? = some d) (hu : Tryz.prog.underlying t = some (.slice e)) (hb : Tryz.prog.bytesOf e = n) : es.length * n ≤ 140737488351232 := by
  rcases h2 with rfl | ⟨sp, rfl⟩
  · simp
  · have h5 := sized_slice hz ht hd hu
    rw [hb] at h5
    have h6 : reachBytes = 140737488351232 := by decide
    rw [h6] at h5
    have h7 : es.length * n ≤ (es.length + sp.length) * n := Nat.mul_le_mul_right _ (by omega)
    omega
theorem conf_sized {H : Type} {w : World} {c : SConf} {d : DataW H} {ts : List TypeId} {ds : List (DataW H)} (hq : SConf.ok w c H d) (hz : (DataW.weightsEach Tryz.prog ts ds).all (· ≤ reachBytes) = true) {j : Nat} (ht : ts[j]? = some 28) (hd : ds[j]? = some d) : ∃ l : CL, ConfAt w c l ∧ l.Names ∧ l.n ≤ 4611686018427387904 := by
  obtain ⟨ds0, rfl, d1, r1, rfl, q1, d2, r2, rfl, q2, d3, r3, rfl, q3, d4, r4, rfl, q4, d5, r5, rfl, q5, _⟩ := hq
  have hz2 := sized_agg hz ht hd Tryz.underlying28
  obtain ⟨ps, e1, h1, g1, l1, _⟩ := q1
  obtain ⟨rs, e2, h2, g2, l2, _⟩ := q2
  obtain ⟨us, e3, h3, g3, l3, n3⟩ := q3
  obtain ⟨ms, e4, h4, g4, l4, n4⟩ := q4
  obtain ⟨xs, e5, h5, g5, l5, n5⟩ := q5
  have z1 := slD_size g1 hz2 (j := 0) (by kernel_rfl) rfl Tryz.underlying22 (by kernel_rfl : Tryz.prog.bytesOf 3 = 8)
  have z2 := slD_size g2 hz2 (j := 1) (by kernel_rfl) rfl Tryz.underlying23 (by kernel_rfl : Tryz.prog.bytesOf 52 = 40)
  have z3 := slD_size g3 hz2 (j := 2) (by kernel_rfl) rfl Tryz.underlying24 (by kernel_rfl : Tryz.prog.bytesOf 76 = 152)
  have z4 := slD_size g4 hz2 (j := 3) (by kernel_rfl) rfl Tryz.underlying25 (by kernel_rfl : Tryz.prog.bytesOf 57 = 40)
  have z5 := slD_size g5 hz2 (j := 4) (by kernel_rfl) rfl Tryz.underlying26 (by kernel_rfl : Tryz.prog.bytesOf 59 = 32)
  refine ⟨⟨ps, rs, us, ms, xs⟩, ⟨h1, h2, h3, h4, h5⟩, ⟨?_, ?_, ?_⟩, ?_⟩
  · exact name_of (Q := fun w x d => SRule.ok w x H d) l3 n3 (fun w x d ⟨_, _, _, _, _, h, _⟩ => h.1)
  · exact name_of (Q := fun w x d => SMeterConf.ok w x H d) l4 n4 (fun w x d ⟨_, _, _, _, _, h, _⟩ => h.1)
  · exact name_of (Q := fun w x d => SMirrorConf.ok w x H d) l5 n5 (fun w x d ⟨_, _, _, _, _, h, _⟩ => h.1)
  · show ps.length + rs.length + us.length + ms.length + xs.length ≤ _
    omega
def SChange.ok : Kn SChange := fun w x H d => ∃ ds, d = .agg ds ∧ (fun w x H ds => ∃ d r, ds = d :: r ∧ (fun _ n _ _ => Fit n) w x.1 H d ∧ (fun w x H ds => ∃ d r, ds = d :: r ∧ (fun _ n _ _ => Fit n) w x.1 H d ∧ (fun w x H ds => ∃ d r, ds = d :: r ∧ SRoute.ok w x.1 H d ∧ (fun w x H ds => ∃ d r, ds = d :: r ∧ SMeterConf.ok w x.1 H d ∧ (fun w x H ds => ∃ d r, ds = d :: r ∧ SMirrorConf.ok w x.1 H d ∧ (fun w x H ds => ∃ d r, ds = d :: r ∧ (SlQ eRule SRule.ok) w x.1 H d ∧ (fun w a H ds => ∃ d, ds = [d] ∧ (fun _ n _ _ => Fit n) w a H d) w x.2 H r) w x.2 H r) w x.2 H r) w x.2 H r) w x.2 H r) w x.2 H r) w (SChange.of x) H ds
theorem opn61 : Opn Tryz.prog 61 eChange SChange.ok := opn_struct Tryz.underlying61 (by kernel_rfl) (OpnF.cons rfl (opn_i Tryz.underlying3 (by kernel_rfl)) (OpnF.cons rfl (opn_i Tryz.underlying3 (by kernel_rfl)) (OpnF.cons rfl opn52 (OpnF.cons rfl opn57 (OpnF.cons rfl opn59 (OpnF.cons rfl (opn_sl opn76 Tryz.underlying24 (by kernel_rfl) rfl) (OpnF.one rfl (opn_i Tryz.underlying3 (by kernel_rfl))))))))) (fun _ => rfl)
theorem mem_weightsAll {H : Type} {P : Program} {e : TypeId} : ∀ (es : List (DataW H)) {i : Nat} (hi : i < es.length) {n : Nat}, n ∈ DataW.weights P e es[i] → n ∈ DataW.weightsAll P e es
  | d :: r, 0, _, n, h => by
    rw [DataW.weightsAll]
    exact List.mem_append_left _ h
  | d :: r, i + 1, hi, n, h => by
    rw [DataW.weightsAll]
    exact List.mem_append_right _ (mem_weightsAll r (i := i) (by simpa using hi) (by simpa using h))
theorem sized_el {H : Type} {P : Program} {ts : List TypeId} {ds es sp : List (DataW H)} {t e : TypeId} (hz : (DataW.weightsEach P ts ds).all (· ≤ reachBytes) = true) {j : Nat} (ht : ts[j]? = some t) (hd : ds[j]? = some (.slice es sp)) (hu : P.underlying t = some (.slice e)) {i : Nat} (hi : i < es.length) : (DataW.weightsEach P [e] [es[i]]).all (· ≤ reachBytes) = true :=
  List.all_eq_true.2 fun n hn => List.all_eq_true.1 hz n (DataW.weights_mem_each ht hd n (by
    have h1 : n ∈ DataW.weights P e es[i] := by simpa [DataW.weightsEach] using hn
    have h2 := mem_weightsAll es hi h1
    simp only [DataW.weights, hu]
    exact List.mem_cons_of_mem _ (List.mem_append_left _ h2)))
theorem change_sized {H : Type} {w : World} {c : SChange} {d : DataW H} {ts : List TypeId} {ds : List (DataW H)} (hq : SChange.ok w c H d) (hz : (DataW.weightsEach Tryz.prog ts ds).all (· ≤ reachBytes) = true) {j : Nat} (ht : ts[j]? = some 61) (hd : ds[j]? = some d) : ∃ rl : List SRule, IsSl eRule w c.rules.v rl ∧ rl.length * 152 ≤ 140737488351232 ∧ (∀ z ∈ rl, z.name.size ≤ 9223372036854775807) ∧ c.meter.name.size ≤ 9223372036854775807 ∧ c.mirror.name.size ≤ 9223372036854775807 := by
  obtain ⟨ds0, rfl, d1, r1, rfl, q1, d2, r2, rfl, q2, d3, r3, rfl, q3, d4, r4, rfl, q4, d5, r5, rfl, q5, d6, r6, rfl, q6, _⟩ := hq
  have hz2 := sized_agg hz ht hd Tryz.underlying61
  obtain ⟨us, e3, h3, g3, l3, n3⟩ := q6
  have z3 := slD_size g3 hz2 (j := 5) (by kernel_rfl) rfl Tryz.underlying24 (by kernel_rfl : Tryz.prog.bytesOf 76 = 152)
  obtain ⟨_, _, _, _, _, hm, _⟩ := q4
  obtain ⟨_, _, _, _, _, hx, _⟩ := q5
  exact ⟨us, h3, by omega, name_of (Q := fun w x d => SRule.ok w x H d) l3 n3 (fun w x d ⟨_, _, _, _, _, h, _⟩ => h.1), hm.1, hx.1⟩
theorem changes_sized {H : Type} {w : World} {o : OV} {d : DataW H} {ts : List TypeId} {ds : List (DataW H)} (hq : SlQ eChange SChange.ok w o H d) (hz : (DataW.weightsEach Tryz.prog ts ds).all (· ≤ reachBytes) = true) {j : Nat} (ht : ts[j]? = some 41) (hd : ds[j]? = some d) : ∃ (cs : List SChange) (rls : List (List SRule)), IsSl eChange w o.v cs ∧ ChsAt w cs rls ∧ (∀ i, i < cs.length → (cs.getD i eChange.zero).meter.name.size ≤ 9223372036854775807 ∧ (cs.getD i eChange.zero).mirror.name.size ≤ 9223372036854775807) ∧ (∀ i, i < cs.length → (rls.getD i []).length * 152 ≤ 140737488355328) ∧ (∀ i, i < cs.length → ∀ x ∈ rls.getD i [], x.name.size ≤ 9223372036854775807) := by
  obtain ⟨cs, es, h1, h2, h3, h4⟩ := hq
  have key : ∀ i, i < cs.length → ∃ rl : List SRule, IsSl eRule w (cs.getD i eChange.zero).rules.v rl ∧ rl.length * 152 ≤ 140737488351232 ∧ (∀ z ∈ rl, z.name.size ≤ 9223372036854775807) ∧ (cs.getD i eChange.zero).meter.name.size ≤ 9223372036854775807 ∧ (cs.getD i eChange.zero).mirror.name.size ≤ 9223372036854775807 := fun i hi => by
    rcases h2 with rfl | ⟨sp, rfl⟩
    · simp only [List.length_nil] at h3
      omega
    · have e : cs.getD i eChange.zero = cs[i] := by simp [List.getD, hi]
      rw [e]
      exact change_sized (h4 i hi (by omega)) (sized_el hz ht hd Tryz.underlying41 (i := i) (by omega)) (j := 0) rfl rfl
  obtain ⟨f, hf⟩ : ∃ f : Nat → List SRule, ∀ i, i < cs.length → IsSl eRule w (cs.getD i eChange.zero).rules.v (f i) ∧ (f i).length * 152 ≤ 140737488351232 ∧ (∀ z ∈ f i, z.name.size ≤ 9223372036854775807) ∧ (cs.getD i eChange.zero).meter.name.size ≤ 9223372036854775807 ∧ (cs.getD i eChange.zero).mirror.name.size ≤ 9223372036854775807 := by
    exact ⟨fun i => if h : i < cs.length then (key i h).choose else [], fun i hi => by
      simp only [dif_pos hi]
      exact (key i hi).choose_spec⟩
  have hg : ∀ i, i < cs.length → ((List.range cs.length).map f).getD i [] = f i := fun i hi => by simp [List.getD, hi]
  refine ⟨cs, (List.range cs.length).map f, h1, ⟨fun i hi => ?_⟩, fun i hi => (hf i hi).2.2.2, fun i hi => ?_, fun i hi => ?_⟩
  · rw [hg i hi]
    exact (hf i hi).1
  · rw [hg i hi]
    have := (hf i hi).2.1
    omega
  · rw [hg i hi]
    exact (hf i hi).2.2.1
set_option maxRecDepth 100000 in
theorem confApplies_contract (H : Type) (enc : TypeId × Value → H) (W : World) (base : Nat) (args : Array Value) (ds gs : List (DataW H)) (before : List MemPlace)
    (hval0 : ∀ (j : Nat) t v, Tryz.f5.params[j]? = some t → args[j]? = some v → Value.okWide Tryz.prog W .any base t v)
    (hW : DataW.Whole enc Tryz.prog Tryz.f5.params.toList Rows.confAppliesSpec.vars false W args.toList ds gs before) (hsz : (DataW.weightsEach Tryz.prog (Tryz.f5.params.toList ++ Rows.confAppliesSpec.plain.varTypes Tryz.prog) (ds ++ gs)).all (· ≤ reachBytes) = true) :
    Calls Tryz.prog 5 args W fun e W' => ∃ v, e = .returned v ∧ Rows.confAppliesSpec.post enc Tryz.prog Tryz.f5 false true false false W args v W' := by
  have hval : ∀ (j : Nat) t v, Tryz.f5.params[j]? = some t → args[j]? = some v → Value.okWide Tryz.prog W .any base t v := hval0
  have hW' := hW
  obtain ⟨p, q, hA0, hV, rfl, hfz, hnd⟩ := hW
  have hA : DataW.TrodAll enc Tryz.prog W 0 (fun _ => true) true Tryz.f5.params.toList args.toList ds p := hA0
  rw [Tryz.params5] at hA hval
  obtain ⟨v0, vs0, d0, ds0, p0, r0, hargs, rfl, rfl, h0, t0⟩ := trodAll_cons hA
  obtain ⟨v1, vs1, d1, ds1, p1, r1, rfl, rfl, rfl, h1, t1⟩ := trodAll_cons t0
  obtain ⟨rfl, rfl, rfl⟩ := trodAll_nil t1
  obtain rfl : args = #[v0, v1] := by cases args; simp_all
  obtain ⟨rfl, rfl⟩ := trodVars_none hV
  have k0 := h0
  have lt0 : ∀ x ∈ p0, x.block < W.heap.size := by obtain ⟨m, hm⟩ := k0; exact DataW.trod_lt m _ _ _ hm
  obtain ⟨a0, rfl, q0⟩ := Opn.open opn28 (hval 0 28 v0 rfl rfl) h0
  have k1 := h1
  have lt1 : ∀ x ∈ p1, x.block < W.heap.size := by obtain ⟨m, hm⟩ := k1; exact DataW.trod_lt m _ _ _ hm
  obtain ⟨a1, rfl, q1⟩ := Opn.open (opn_sl opn61 Tryz.underlying41 (by kernel_rfl) rfl) (hval 1 41 v1 rfl rfl) h1
  clear hA0 hval0
  obtain ⟨l0, hc0, hn0⟩ := conf_open q0
  obtain ⟨cs, rls, hu, hcs, hnm, hlen, hrn⟩ := changes_sized q1 hsz (j := 1) rfl rfl
  refine (ConfApplies_walk a0 l0 a1.v cs rls W hc0 hn0 hu hcs hnm hlen hrn).mono fun e W' he => ?_
  obtain ⟨rfl, bel⟩ := he.below
  exact ⟨_, rfl, _, _, _, [], _, [], hW', trodAll_mk1 (shut_bool Tryz.underlying4 _), (trodAll_cons_mk (Below.trod laidOut (by kernel_rfl) (of_decide_eq_true (by kernel_rfl)) k0 bel lt0) (trodAll_cons_mk (Below.trod laidOut (by kernel_rfl) (of_decide_eq_true (by kernel_rfl)) k1 bel lt1) trodAll_mk0)), rfl, bel.frame _, fun h => by cases h⟩
set_option maxRecDepth 100000 in
theorem confApplies_lifted (os : Os) (started : os.Started) (H : Type) (enc : TypeId × Value → H) :
    ReturnsInHanded {} Tryz.checked os 5 .any (Rows.confAppliesSpec.pre6 enc Tryz.prog Tryz.f5 Rows.confAppliesRow.domain false) (Rows.confAppliesSpec.post enc Tryz.prog Tryz.f5 false true false false) := by
  refine returnsInHanded_of_change_sized (C := Tryz.checked) own started (by kernel_rfl) Tryz.func5
    (ChangeSpec.witness6 (enc := enc) (C := Tryz.checked) false ⟨#[], #[eConf.val eConf.zero, (ovE nilSl).val (ovE nilSl).zero], []⟩ 8 (by kernel_rfl) (by kernel_rfl) (by kernel_rfl) (by kernel_rfl)) ?_
  intro W base args ds gs before hval hW _ hsz _
  exact confApplies_contract H enc W base args ds gs before hval hW hsz
theorem claimConfApplies : Rows.ConfAppliesSaid :=
  OpenClaim.holds_of_wide 5 Tryz.f5 rfl rfl rfl rfl rfl rfl rfl ⟨rfl, rfl, rfl, rfl, rfl⟩ rfl rfl rfl rfl rfl (by kernel_rfl) Tryz.func5 (by kernel_rfl)
    (of_decide_eq_true (by kernel_rfl)) (by unfold Func.isWrapper; first | (rw [if_pos (by decide +kernel)]; kernel_rfl) | (rw [if_neg (by decide +kernel)]; exact ⟨rfl, rfl⟩))
    (fun os started H enc _ => confApplies_lifted os started H enc)
end Go.Proofs.YtnoobdijbpmjkaaGreat
