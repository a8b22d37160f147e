/- Of all two configurations and stages: which rolls there may be. No conditions. -/
import Derived.Test.YtakmoeladkajdaaGreatM5
import Derived.Test.YtakmoeladkajdaaGreatHxG
set_option linter.unusedVariables false
set_option linter.unusedSimpArgs false
namespace Go.Proofs.YtakmoeladkajdaaGreat
open Go.ChangeShapes Go.WideShapes Go.ChangeAt Go.RowKit
open Go Go.Gx Go.Proofs.YtakmoeladkajdaaGreat.Tri Go.Proofs.YtakmoeladkajdaaGreat.Oc
theorem own : ownKnob Tryz.prog.godebug = none := by kernel_rfl
theorem laidOut : laidOutB Tryz.prog = true := by kernel_rfl
def SAddr.ok : Kn SAddr := fun w x H d => ∃ ds, d = .agg ds ∧ (fun w x H ds => ∃ d r, ds = d :: r ∧ (fun _ _ _ _ => True) w x.1 H d ∧ (fun w a H ds => ∃ d, ds = [d] ∧ (fun w v H d => ∃ ds, d = .agg ds ∧ ∀ i (hi : i < 16) (h2 : i < ds.length), (fun _ _ _ _ => True) w v[i] H ds[i]) w a H d) w x.2 H r) w (SAddr.of x) H ds
theorem opn45 : Opn Tryz.prog 45 eAddr SAddr.ok := opn_struct Tryz.underlying45 (by kernel_rfl) (OpnF.cons rfl (opn_b Tryz.underlying4 (by kernel_rfl)) (OpnF.one rfl (opn_arr (opn_u8 Tryz.underlying5 (by kernel_rfl)) Tryz.underlying43 (by kernel_rfl)))) (fun _ => rfl)
def SPrefix.ok : Kn SPrefix := fun w x H d => ∃ ds, d = .agg ds ∧ (fun w x H ds => ∃ d r, ds = d :: r ∧ SAddr.ok w x.1 H d ∧ (fun w a H ds => ∃ d, ds = [d] ∧ (fun _ n _ _ => Fit n) w a H d) w x.2 H r) w (SPrefix.of x) H ds
theorem opn109 : Opn Tryz.prog 109 ePrefix SPrefix.ok := opn_struct Tryz.underlying109 (by kernel_rfl) (OpnF.cons rfl opn45 (OpnF.one rfl (opn_i Tryz.underlying3 (by kernel_rfl)))) (fun _ => rfl)
def SRoute.ok : Kn SRoute := fun w x H d => ∃ ds, d = .agg ds ∧ (fun w x H ds => ∃ d r, ds = d :: r ∧ SPrefix.ok w x.1 H d ∧ (fun w a H ds => ∃ d, ds = [d] ∧ (fun _ n _ _ => Fit n) w a H d) w x.2 H r) w (SRoute.of x) H ds
theorem opn172 : Opn Tryz.prog 172 eRoute SRoute.ok := opn_struct Tryz.underlying172 (by kernel_rfl) (OpnF.cons rfl opn109 (OpnF.one rfl (opn_i Tryz.underlying3 (by kernel_rfl)))) (fun _ => rfl)
def SSpan.ok : Kn SSpan := fun w x H d => ∃ ds, d = .agg ds ∧ (fun w x H ds => ∃ d r, ds = d :: r ∧ (fun _ _ _ _ => True) w x.1 H d ∧ (fun w a H ds => ∃ d, ds = [d] ∧ (fun _ _ _ _ => True) w a H d) w x.2 H r) w (SSpan.of x) H ds
theorem opn107 : Opn Tryz.prog 107 eSpan SSpan.ok := opn_struct Tryz.underlying107 (by kernel_rfl) (OpnF.cons rfl (opn_u16 Tryz.underlying46 (by kernel_rfl)) (OpnF.one rfl (opn_u16 Tryz.underlying46 (by kernel_rfl)))) (fun _ => rfl)
def SMatch.ok : Kn SMatch := fun w x H d => ∃ ds, d = .agg ds ∧ (fun w x H ds => ∃ d r, ds = d :: r ∧ (fun _ _ _ _ => True) w x.1 H d ∧ (fun w x H ds => ∃ d r, ds = d :: r ∧ SSpan.ok w x.1 H d ∧ (fun w x H ds => ∃ d r, ds = d :: r ∧ SPrefix.ok w x.1 H d ∧ (fun w x H ds => ∃ d r, ds = d :: r ∧ SPrefix.ok w x.1 H d ∧ (fun w x H ds => ∃ d r, ds = d :: r ∧ (fun _ _ _ _ => True) w x.1 H d ∧ (fun w x H ds => ∃ d r, ds = d :: r ∧ SSpan.ok w x.1 H d ∧ (fun w a H ds => ∃ d, ds = [d] ∧ SSpan.ok w a H d) w x.2 H r) w x.2 H r) w x.2 H r) w x.2 H r) w x.2 H r) w x.2 H r) w (SMatch.of x) H ds
theorem opn111 : Opn Tryz.prog 111 eMatch SMatch.ok := opn_struct Tryz.underlying111 (by kernel_rfl) (OpnF.cons rfl (opn_u8 Tryz.underlying5 (by kernel_rfl)) (OpnF.cons rfl opn107 (OpnF.cons rfl opn109 (OpnF.cons rfl opn109 (OpnF.cons rfl (opn_u8 Tryz.underlying5 (by kernel_rfl)) (OpnF.cons rfl opn107 (OpnF.one rfl opn107))))))) (fun _ => rfl)
def SRule.ok : Kn SRule := fun w x H d => ∃ ds, d = .agg ds ∧ (fun w x H ds => ∃ d r, ds = d :: r ∧ (fun _ s _ d => s.size ≤ maxLen ∧ d = .lit (.string s.data.toList)) w x.1 H d ∧ (fun w x H ds => ∃ d r, ds = d :: r ∧ SMatch.ok w x.1 H d ∧ (fun w x H ds => ∃ d r, ds = d :: r ∧ (fun _ n _ _ => Fit n) w x.1 H d ∧ (fun w x H ds => ∃ d r, ds = d :: r ∧ (fun _ n _ _ => Fit n) w x.1 H d ∧ (fun w x H ds => ∃ d r, ds = d :: r ∧ (fun _ s _ d => s.size ≤ maxLen ∧ d = .lit (.string s.data.toList)) w x.1 H d ∧ (fun w a H ds => ∃ d, ds = [d] ∧ (fun _ s _ d => s.size ≤ maxLen ∧ d = .lit (.string s.data.toList)) w a H d) w x.2 H r) w x.2 H r) w x.2 H r) w x.2 H r) w x.2 H r) w (SRule.of x) H ds
theorem opn113 : Opn Tryz.prog 113 eRule SRule.ok := opn_struct Tryz.underlying113 (by kernel_rfl) (OpnF.cons rfl (opn_s Tryz.underlying9 (by kernel_rfl)) (OpnF.cons rfl opn111 (OpnF.cons rfl (opn_i Tryz.underlying3 (by kernel_rfl)) (OpnF.cons rfl (opn_i Tryz.underlying3 (by kernel_rfl)) (OpnF.cons rfl (opn_s Tryz.underlying9 (by kernel_rfl)) (OpnF.one rfl (opn_s Tryz.underlying9 (by kernel_rfl)))))))) (fun _ => rfl)
def SBucket.ok : Kn SBucket := fun w x H d => ∃ ds, d = .agg ds ∧ (fun w x H ds => ∃ d r, ds = d :: r ∧ (fun _ _ _ _ => True) w x.1 H d ∧ (fun w x H ds => ∃ d r, ds = d :: r ∧ (fun _ _ _ _ => True) w x.1 H d ∧ (fun w a H ds => ∃ d, ds = [d] ∧ (fun _ _ _ _ => True) w a H d) w x.2 H r) w x.2 H r) w (SBucket.of x) H ds
theorem opn132 : Opn Tryz.prog 132 eBucket SBucket.ok := opn_struct Tryz.underlying132 (by kernel_rfl) (OpnF.cons rfl (opn_u64 Tryz.underlying35 (by kernel_rfl)) (OpnF.cons rfl (opn_u64 Tryz.underlying35 (by kernel_rfl)) (OpnF.one rfl (opn_u64 Tryz.underlying35 (by kernel_rfl))))) (fun _ => rfl)
def SMeterConf.ok : Kn SMeterConf := fun w x H d => ∃ ds, d = .agg ds ∧ (fun w x H ds => ∃ d r, ds = d :: r ∧ (fun _ s _ d => s.size ≤ maxLen ∧ d = .lit (.string s.data.toList)) w x.1 H d ∧ (fun w a H ds => ∃ d, ds = [d] ∧ SBucket.ok w a H d) w x.2 H r) w (SMeterConf.of x) H ds
theorem opn134 : Opn Tryz.prog 134 eMeterConf SMeterConf.ok := opn_struct Tryz.underlying134 (by kernel_rfl) (OpnF.cons rfl (opn_s Tryz.underlying9 (by kernel_rfl)) (OpnF.one rfl opn132)) (fun _ => rfl)
def SMirrorConf.ok : Kn SMirrorConf := fun w x H d => ∃ ds, d = .agg ds ∧ (fun w x H ds => ∃ d r, ds = d :: r ∧ (fun _ s _ d => s.size ≤ maxLen ∧ d = .lit (.string s.data.toList)) w x.1 H d ∧ (fun w x H ds => ∃ d r, ds = d :: r ∧ (fun _ n _ _ => Fit n) w x.1 H d ∧ (fun w a H ds => ∃ d, ds = [d] ∧ (fun _ n _ _ => Fit n) w a H d) w x.2 H r) w x.2 H r) w (SMirrorConf.of x) H ds
theorem opn136 : Opn Tryz.prog 136 eMirrorConf SMirrorConf.ok := opn_struct Tryz.underlying136 (by kernel_rfl) (OpnF.cons rfl (opn_s Tryz.underlying9 (by kernel_rfl)) (OpnF.cons rfl (opn_i Tryz.underlying3 (by kernel_rfl)) (OpnF.one rfl (opn_i Tryz.underlying3 (by kernel_rfl))))) (fun _ => rfl)
def SConf.ok : Kn SConf := fun w x H d => ∃ ds, d = .agg ds ∧ (fun w x H ds => ∃ d r, ds = d :: r ∧ (SlQ iE (fun _ n _ _ => Fit n)) w x.1 H d ∧ (fun w x H ds => ∃ d r, ds = d :: r ∧ (SlQ eRoute SRoute.ok) w x.1 H d ∧ (fun w x H ds => ∃ d r, ds = d :: r ∧ (SlQ eRule SRule.ok) w x.1 H d ∧ (fun w x H ds => ∃ d r, ds = d :: r ∧ (SlQ eMeterConf SMeterConf.ok) w x.1 H d ∧ (fun w x H ds => ∃ d r, ds = d :: r ∧ (SlQ eMirrorConf SMirrorConf.ok) w x.1 H d ∧ (fun w a H ds => ∃ d, ds = [d] ∧ (fun _ n _ _ => Fit n) w a H d) w x.2 H r) w x.2 H r) w x.2 H r) w x.2 H r) w x.2 H r) w (SConf.of x) H ds
theorem opn28 : Opn Tryz.prog 28 eConf SConf.ok := opn_struct Tryz.underlying28 (by kernel_rfl) (OpnF.cons rfl (opn_sl (opn_i Tryz.underlying3 (by kernel_rfl)) Tryz.underlying22 (by kernel_rfl) rfl) (OpnF.cons rfl (opn_sl opn172 Tryz.underlying23 (by kernel_rfl) rfl) (OpnF.cons rfl (opn_sl opn113 Tryz.underlying24 (by kernel_rfl) rfl) (OpnF.cons rfl (opn_sl opn134 Tryz.underlying25 (by kernel_rfl) rfl) (OpnF.cons rfl (opn_sl opn136 Tryz.underlying26 (by kernel_rfl) rfl) (OpnF.one rfl (opn_i Tryz.underlying3 (by kernel_rfl)))))))) (fun _ => rfl)
def SStage.ok : Kn SStage := fun w x H d => ∃ ds, d = .agg ds ∧ (fun w x H ds => ∃ d r, ds = d :: r ∧ (fun _ n _ _ => Fit n) w x.1 H d ∧ (fun w x H ds => ∃ d r, ds = d :: r ∧ (fun _ _ _ _ => True) w x.1 H d ∧ (fun w a H ds => ∃ d, ds = [d] ∧ (fun _ _ _ _ => True) w a H d) w x.2 H r) w x.2 H r) w (SStage.of x) H ds
theorem opn37 : Opn Tryz.prog 37 eStage SStage.ok := opn_struct Tryz.underlying37 (by kernel_rfl) (OpnF.cons rfl (opn_i Tryz.underlying3 (by kernel_rfl)) (OpnF.cons rfl (opn_u64 Tryz.underlying35 (by kernel_rfl)) (OpnF.one rfl (opn_u64 Tryz.underlying35 (by kernel_rfl))))) (fun _ => rfl)
def SLaw31Plan.ok : Kn SLaw31Plan := fun w x H d => ∃ ds, d = .agg ds ∧ (fun w x H ds => ∃ d r, ds = d :: r ∧ SConf.ok w x.1 H d ∧ (fun w x H ds => ∃ d r, ds = d :: r ∧ SConf.ok w x.1 H d ∧ (fun w a H ds => ∃ d, ds = [d] ∧ (SlQ eStage SStage.ok) w a H d) w x.2 H r) w x.2 H r) w (SLaw31Plan.of x) H ds
theorem opn31 : Opn Tryz.prog 31 eLaw31Plan SLaw31Plan.ok := opn_struct Tryz.underlying31 (by kernel_rfl) (OpnF.cons rfl opn28 (OpnF.cons rfl opn28 (OpnF.one rfl (opn_sl opn37 Tryz.underlying29 (by kernel_rfl) rfl)))) (fun _ => rfl)
theorem name_of {w : World} {H : Type} {α : Type} {xs : List α} {ds : List (DataW H)} {Q : World → α → DataW H → Prop} {f : α → ByteArray} (hl : xs.length = ds.length) (hq : ∀ i (h1 : i < xs.length) (h2 : i < ds.length), Q w xs[i] ds[i]) (hf : ∀ w x d, Q w x d → (f x).size ≤ 9223372036854775807) : ∀ x ∈ xs, (f x).size ≤ 9223372036854775807 := fun x hx => by
  obtain ⟨i, hi, rfl⟩ := List.mem_iff_getElem.1 hx
  exact hf _ _ _ (hq i hi (by omega))
theorem conf_open {H : Type} {w : World} {c : SConf} {d : DataW H} (hq : SConf.ok w c H d) : ∃ l : CL, ConfAt w c l ∧ l.Names := by
  obtain ⟨ds0, rfl, d1, r1, rfl, q1, d2, r2, rfl, q2, d3, r3, rfl, q3, d4, r4, rfl, q4, d5, r5, rfl, q5, _⟩ := hq
  obtain ⟨ps, e1, h1, _⟩ := q1
  obtain ⟨rs, e2, h2, _⟩ := q2
  obtain ⟨us, e3, h3, _, l3, n3⟩ := q3
  obtain ⟨ms, e4, h4, _, l4, n4⟩ := q4
  obtain ⟨xs, e5, h5, _, l5, n5⟩ := q5
  refine ⟨⟨ps, rs, us, ms, xs⟩, ⟨h1, h2, h3, h4, h5⟩, ⟨?_, ?_, ?_⟩⟩
  · exact name_of (Q := fun w x d => SRule.ok w x H d) l3 n3 (fun w x d ⟨_, _, _, _, _, h, _⟩ => h.1)
  · exact name_of (Q := fun w x d => SMeterConf.ok w x H d) l4 n4 (fun w x d ⟨_, _, _, _, _, h, _⟩ => h.1)
  · exact name_of (Q := fun w x d => SMirrorConf.ok w x H d) l5 n5 (fun w x d ⟨_, _, _, _, _, h, _⟩ => h.1)
theorem slD_size {H : Type} {d : DataW H} {es : List (DataW H)} {ts : List TypeId} {ds : List (DataW H)} (h2 : SlD d es) (hz : (DataW.weightsEach Tryz.prog ts ds).all (· ≤ reachBytes) = true) {j n : Nat} {t e : TypeId} (ht : ts[j]? = some t) (hd : ds[j]? = some d) (hu : Tryz.prog.underlying t = some (.slice e)) (hb : Tryz.prog.bytesOf e = n) : es.length * n ≤ 140737488351232 := by
  rcases h2 with rfl | ⟨sp, rfl⟩
  · simp
  · have h5 := sized_slice hz ht hd hu
    rw [hb] at h5
    have h6 : reachBytes = 140737488351232 := by decide
    rw [h6] at h5
    have h7 : es.length * n ≤ (es.length + sp.length) * n := Nat.mul_le_mul_right _ (by omega)
    omega
theorem conf_sized {H : Type} {w : World} {c : SConf} {d : DataW H} {ts : List TypeId} {ds : List (DataW H)} (hq : SConf.ok w c H d) (hz : (DataW.weightsEach Tryz.prog ts ds).all (· ≤ reachBytes) = true) {j : Nat} (ht : ts[j]? = some 28) (hd : ds[j]? = some d) : ∃ l : CL, ConfAt w c l ∧ l.Names ∧ l.n ≤ 4611686018427387904 := by
  obtain ⟨ds0, rfl, d1, r1, rfl, q1, d2, r2, rfl, q2, d3, r3, rfl, q3, d4, r4, rfl, q4, d5, r5, rfl, q5, _⟩ := hq
  have hz2 := sized_agg hz ht hd Tryz.underlying28
  obtain ⟨ps, e1, h1, g1, l1, _⟩ := q1
  obtain ⟨rs, e2, h2, g2, l2, _⟩ := q2
  obtain ⟨us, e3, h3, g3, l3, n3⟩ := q3
  obtain ⟨ms, e4, h4, g4, l4, n4⟩ := q4
  obtain ⟨xs, e5, h5, g5, l5, n5⟩ := q5
  have z1 := slD_size g1 hz2 (j := 0) (by kernel_rfl) rfl Tryz.underlying22 (by kernel_rfl : Tryz.prog.bytesOf 3 = 8)
  have z2 := slD_size g2 hz2 (j := 1) (by kernel_rfl) rfl Tryz.underlying23 (by kernel_rfl : Tryz.prog.bytesOf 172 = 40)
  have z3 := slD_size g3 hz2 (j := 2) (by kernel_rfl) rfl Tryz.underlying24 (by kernel_rfl : Tryz.prog.bytesOf 113 = 152)
  have z4 := slD_size g4 hz2 (j := 3) (by kernel_rfl) rfl Tryz.underlying25 (by kernel_rfl : Tryz.prog.bytesOf 134 = 40)
  have z5 := slD_size g5 hz2 (j := 4) (by kernel_rfl) rfl Tryz.underlying26 (by kernel_rfl : Tryz.prog.bytesOf 136 = 32)
  refine ⟨⟨ps, rs, us, ms, xs⟩, ⟨h1, h2, h3, h4, h5⟩, ⟨?_, ?_, ?_⟩, ?_⟩
  · exact name_of (Q := fun w x d => SRule.ok w x H d) l3 n3 (fun w x d ⟨_, _, _, _, _, h, _⟩ => h.1)
  · exact name_of (Q := fun w x d => SMeterConf.ok w x H d) l4 n4 (fun w x d ⟨_, _, _, _, _, h, _⟩ => h.1)
  · exact name_of (Q := fun w x d => SMirrorConf.ok w x H d) l5 n5 (fun w x d ⟨_, _, _, _, _, h, _⟩ => h.1)
  · show ps.length + rs.length + us.length + ms.length + xs.length ≤ _
    omega
theorem conf_fits {H : Type} {w : World} {c : SConf} {d : DataW H} {ts : List TypeId} {ds : List (DataW H)} (hq : SConf.ok w c H d) (hz : (DataW.weightsEach Tryz.prog ts ds).all (· ≤ reachBytes) = true) {j : Nat} (ht : ts[j]? = some 28) (hd : ds[j]? = some d) : ∃ l : CL, ConfAt w c l ∧ l.Names ∧ l.n ≤ 4611686018427387904 ∧ l.Fits := by
  obtain ⟨ds0, rfl, d1, r1, rfl, q1, d2, r2, rfl, q2, d3, r3, rfl, q3, d4, r4, rfl, q4, d5, r5, rfl, q5, _⟩ := hq
  have hz2 := sized_agg hz ht hd Tryz.underlying28
  obtain ⟨ps, e1, h1, g1, l1, _⟩ := q1
  obtain ⟨rs, e2, h2, g2, l2, _⟩ := q2
  obtain ⟨us, e3, h3, g3, l3, n3⟩ := q3
  obtain ⟨ms, e4, h4, g4, l4, n4⟩ := q4
  obtain ⟨xs, e5, h5, g5, l5, n5⟩ := q5
  have z1 := slD_size g1 hz2 (j := 0) (by kernel_rfl) rfl Tryz.underlying22 (by kernel_rfl : Tryz.prog.bytesOf 3 = 8)
  have z2 := slD_size g2 hz2 (j := 1) (by kernel_rfl) rfl Tryz.underlying23 (by kernel_rfl : Tryz.prog.bytesOf 172 = 40)
  have z3 := slD_size g3 hz2 (j := 2) (by kernel_rfl) rfl Tryz.underlying24 (by kernel_rfl : Tryz.prog.bytesOf 113 = 152)
  have z4 := slD_size g4 hz2 (j := 3) (by kernel_rfl) rfl Tryz.underlying25 (by kernel_rfl : Tryz.prog.bytesOf 134 = 40)
  have z5 := slD_size g5 hz2 (j := 4) (by kernel_rfl) rfl Tryz.underlying26 (by kernel_rfl : Tryz.prog.bytesOf 136 = 32)
  refine ⟨⟨ps, rs, us, ms, xs⟩, ⟨h1, h2, h3, h4, h5⟩, ⟨?_, ?_, ?_⟩, ?_, ⟨by show ps.length * 8 ≤ _; omega, by show rs.length * 40 ≤ _; omega, by show us.length * 152 ≤ _; omega, by show ms.length * 40 ≤ _; omega, by show xs.length * 32 ≤ _; omega⟩⟩
  · exact name_of (Q := fun w x d => SRule.ok w x H d) l3 n3 (fun w x d ⟨_, _, _, _, _, h, _⟩ => h.1)
  · exact name_of (Q := fun w x d => SMeterConf.ok w x H d) l4 n4 (fun w x d ⟨_, _, _, _, _, h, _⟩ => h.1)
  · exact name_of (Q := fun w x d => SMirrorConf.ok w x H d) l5 n5 (fun w x d ⟨_, _, _, _, _, h, _⟩ => h.1)
  · show ps.length + rs.length + us.length + ms.length + xs.length ≤ _
    omega
theorem plan_sized {H : Type} {w : World} {p : SLaw31Plan} {d : DataW H} {ts : List TypeId} {ds : List (DataW H)} (hq : SLaw31Plan.ok w p H d) (hz : (DataW.weightsEach Tryz.prog ts ds).all (· ≤ reachBytes) = true) {j : Nat} (ht : ts[j]? = some 31) (hd : ds[j]? = some d) : ∃ (l1 l2 : CL) (ss : List SStage), ConfAt w p.old l1 ∧ l1.Names ∧ l1.n ≤ 4611686018427387904 ∧ l1.Fits ∧ ConfAt w p.new l2 ∧ l2.Names ∧ l2.n ≤ 4611686018427387904 ∧ l2.Fits ∧ IsSl eStage w p.stages.v ss ∧ ss.length * 24 ≤ 140737488351232 := by
  obtain ⟨ds0, rfl, d1, r1, rfl, q1, d2, r2, rfl, q2, d3, rfl, q3⟩ := hq
  have hz2 := sized_agg hz ht hd Tryz.underlying31
  obtain ⟨l1, a1, a2, a3, a4⟩ := conf_fits q1 hz2 (j := 0) rfl rfl
  obtain ⟨l2, b1, b2, b3, b4⟩ := conf_fits q2 hz2 (j := 1) rfl rfl
  obtain ⟨ss, es, h1, g1, g2, _⟩ := q3
  have z1 := slD_size g1 hz2 (j := 2) (by kernel_rfl) rfl Tryz.underlying29 (by kernel_rfl : Tryz.prog.bytesOf 37 = 24)
  exact ⟨l1, l2, ss, a1, a2, a3, a4, b1, b2, b3, b4, h1, by omega⟩
set_option maxRecDepth 100000 in
theorem rollNews_contract (H : Type) (enc : TypeId × Value → H) (W : World) (base : Nat) (args : Array Value) (ds gs : List (DataW H)) (before : List MemPlace)
    (hval0 : ∀ (j : Nat) t v, Tryz.f3.params[j]? = some t → args[j]? = some v → Value.okWide Tryz.prog W .any base t v)
    (hW : DataW.Whole enc Tryz.prog Tryz.f3.params.toList Rows.rollNewsSpec.vars false W args.toList ds gs before) (hsz : (DataW.weightsEach Tryz.prog (Tryz.f3.params.toList ++ Rows.rollNewsSpec.plain.varTypes Tryz.prog) (ds ++ gs)).all (· ≤ reachBytes) = true) :
    Calls Tryz.prog 3 args W fun e W' => ∃ v, e = .returned v ∧ Rows.rollNewsSpec.post enc Tryz.prog Tryz.f3 false true false false W args v W' := by
  have hval : ∀ (j : Nat) t v, Tryz.f3.params[j]? = some t → args[j]? = some v → Value.okWide Tryz.prog W .any base t v := hval0
  have hW' := hW
  obtain ⟨p, q, hA0, hV, rfl, hfz, hnd⟩ := hW
  have hA : DataW.TrodAll enc Tryz.prog W 0 (fun _ => true) true Tryz.f3.params.toList args.toList ds p := hA0
  rw [Tryz.params3] at hA hval
  obtain ⟨v0, vs0, d0, ds0, p0, r0, hargs, rfl, rfl, h0, t0⟩ := trodAll_cons hA
  obtain ⟨rfl, rfl, rfl⟩ := trodAll_nil t0
  obtain rfl : args = #[v0] := by cases args; simp_all
  obtain ⟨rfl, rfl⟩ := trodVars_none hV
  have k0 := h0
  have lt0 : ∀ x ∈ p0, x.block < W.heap.size := by obtain ⟨m, hm⟩ := k0; exact DataW.trod_lt m _ _ _ hm
  obtain ⟨a0, rfl, q0⟩ := Opn.open opn31 (hval 0 31 v0 rfl rfl) h0
  clear hA0 hval0
  obtain ⟨l1, l2, ss, hc1, hn1, hz1, hf1, hc2, hn2, hz2, hf2, hss, hsz2⟩ := plan_sized q0 hsz (j := 0) rfl rfl
  refine (RollNews_walk a0 l1 l2 ss W hc1 hn1 hz1 hf1 hc2 hn2 hz2 hf2 hss hsz2).mono fun e W' he => ?_
  obtain ⟨rfl, bel⟩ := he.below
  exact ⟨_, rfl, _, _, _, [], _, [], hW', trodAll_mk1 (shut_bool Tryz.underlying4 _), (trodAll_cons_mk (Below.trod laidOut (by kernel_rfl) (of_decide_eq_true (by kernel_rfl)) k0 bel lt0) trodAll_mk0), rfl, bel.frame _, fun h => by cases h⟩
set_option maxRecDepth 100000 in
theorem rollNews_lifted (os : Os) (started : os.Started) (H : Type) (enc : TypeId × Value → H) :
    ReturnsInHanded {} Tryz.checked os 3 .any (Rows.rollNewsSpec.pre6 enc Tryz.prog Tryz.f3 Rows.rollNewsRow.domain false) (Rows.rollNewsSpec.post enc Tryz.prog Tryz.f3 false true false false) := by
  refine returnsInHanded_of_change_sized (C := Tryz.checked) own started (by kernel_rfl) Tryz.func3
    (ChangeSpec.witness6 (enc := enc) (C := Tryz.checked) false ⟨#[], #[eLaw31Plan.val eLaw31Plan.zero], []⟩ 8 (by kernel_rfl) (by kernel_rfl) (by kernel_rfl) (by kernel_rfl)) ?_
  intro W base args ds gs before hval hW _ hsz _
  exact rollNews_contract H enc W base args ds gs before hval hW hsz
theorem claimRollNews : Rows.RollNewsSaid :=
  OpenClaim.holds_of_wide 3 Tryz.f3 rfl rfl rfl rfl rfl rfl rfl ⟨rfl, rfl, rfl, rfl, rfl⟩ rfl rfl rfl rfl rfl (by kernel_rfl) Tryz.func3 (by kernel_rfl)
    (of_decide_eq_true (by kernel_rfl)) (by unfold Func.isWrapper; first | (rw [if_pos (by decide +kernel)]; kernel_rfl) | (rw [if_neg (by decide +kernel)]; exact ⟨rfl, rfl⟩))
    (fun os started H enc _ => rollNews_lifted os started H enc)
end Go.Proofs.YtakmoeladkajdaaGreat
