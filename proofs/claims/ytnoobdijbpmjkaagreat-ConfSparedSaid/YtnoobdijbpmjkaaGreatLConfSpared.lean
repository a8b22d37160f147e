/- Without what counts for nothing a configuration may still be, and no rule is dead. No conditions. -/
import Derived.Test.YtnoobdijbpmjkaaGreatM4
import Derived.Test.YtnoobdijbpmjkaaGreatHxG
set_option linter.unusedVariables false
set_option linter.unusedSimpArgs false
namespace Go.Proofs.YtnoobdijbpmjkaaGreat
open Go.ChangeShapes Go.WideShapes Go.ChangeAt Go.RowKit
open Go Go.Gx
theorem own : ownKnob Tryz.prog.godebug = none := by kernel_rfl
theorem laidOut : laidOutB Tryz.prog = true := by kernel_rfl
def SAddr.ok : Kn SAddr := fun w x H d => ∃ ds, d = .agg ds ∧ (fun w x H ds => ∃ d r, ds = d :: r ∧ (fun _ _ _ _ => True) w x.1 H d ∧ (fun w a H ds => ∃ d, ds = [d] ∧ (fun w v H d => ∃ ds, d = .agg ds ∧ ∀ i (hi : i < 16) (h2 : i < ds.length), (fun _ _ _ _ => True) w v[i] H ds[i]) w a H d) w x.2 H r) w (SAddr.of x) H ds
theorem opn48 : Opn Tryz.prog 48 eAddr SAddr.ok := opn_struct Tryz.underlying48 (by kernel_rfl) (OpnF.cons rfl (opn_b Tryz.underlying4 (by kernel_rfl)) (OpnF.one rfl (opn_arr (opn_u8 Tryz.underlying5 (by kernel_rfl)) Tryz.underlying46 (by kernel_rfl)))) (fun _ => rfl)
def SPrefix.ok : Kn SPrefix := fun w x H d => ∃ ds, d = .agg ds ∧ (fun w x H ds => ∃ d r, ds = d :: r ∧ SAddr.ok w x.1 H d ∧ (fun w a H ds => ∃ d, ds = [d] ∧ (fun _ n _ _ => Fit n) w a H d) w x.2 H r) w (SPrefix.of x) H ds
theorem opn50 : Opn Tryz.prog 50 ePrefix SPrefix.ok := opn_struct Tryz.underlying50 (by kernel_rfl) (OpnF.cons rfl opn48 (OpnF.one rfl (opn_i Tryz.underlying3 (by kernel_rfl)))) (fun _ => rfl)
def SRoute.ok : Kn SRoute := fun w x H d => ∃ ds, d = .agg ds ∧ (fun w x H ds => ∃ d r, ds = d :: r ∧ SPrefix.ok w x.1 H d ∧ (fun w a H ds => ∃ d, ds = [d] ∧ (fun _ n _ _ => Fit n) w a H d) w x.2 H r) w (SRoute.of x) H ds
theorem opn52 : Opn Tryz.prog 52 eRoute SRoute.ok := opn_struct Tryz.underlying52 (by kernel_rfl) (OpnF.cons rfl opn50 (OpnF.one rfl (opn_i Tryz.underlying3 (by kernel_rfl)))) (fun _ => rfl)
def SSpan.ok : Kn SSpan := fun w x H d => ∃ ds, d = .agg ds ∧ (fun w x H ds => ∃ d r, ds = d :: r ∧ (fun _ _ _ _ => True) w x.1 H d ∧ (fun w a H ds => ∃ d, ds = [d] ∧ (fun _ _ _ _ => True) w a H d) w x.2 H r) w (SSpan.of x) H ds
theorem opn72 : Opn Tryz.prog 72 eSpan SSpan.ok := opn_struct Tryz.underlying72 (by kernel_rfl) (OpnF.cons rfl (opn_u16 Tryz.underlying70 (by kernel_rfl)) (OpnF.one rfl (opn_u16 Tryz.underlying70 (by kernel_rfl)))) (fun _ => rfl)
def SMatch.ok : Kn SMatch := fun w x H d => ∃ ds, d = .agg ds ∧ (fun w x H ds => ∃ d r, ds = d :: r ∧ (fun _ _ _ _ => True) w x.1 H d ∧ (fun w x H ds => ∃ d r, ds = d :: r ∧ SSpan.ok w x.1 H d ∧ (fun w x H ds => ∃ d r, ds = d :: r ∧ SPrefix.ok w x.1 H d ∧ (fun w x H ds => ∃ d r, ds = d :: r ∧ SPrefix.ok w x.1 H d ∧ (fun w x H ds => ∃ d r, ds = d :: r ∧ (fun _ _ _ _ => True) w x.1 H d ∧ (fun w x H ds => ∃ d r, ds = d :: r ∧ SSpan.ok w x.1 H d ∧ (fun w a H ds => ∃ d, ds = [d] ∧ SSpan.ok w a H d) w x.2 H r) w x.2 H r) w x.2 H r) w x.2 H r) w x.2 H r) w x.2 H r) w (SMatch.of x) H ds
theorem opn74 : Opn Tryz.prog 74 eMatch SMatch.ok := opn_struct Tryz.underlying74 (by kernel_rfl) (OpnF.cons rfl (opn_u8 Tryz.underlying5 (by kernel_rfl)) (OpnF.cons rfl opn72 (OpnF.cons rfl opn50 (OpnF.cons rfl opn50 (OpnF.cons rfl (opn_u8 Tryz.underlying5 (by kernel_rfl)) (OpnF.cons rfl opn72 (OpnF.one rfl opn72))))))) (fun _ => rfl)
def SRule.ok : Kn SRule := fun w x H d => ∃ ds, d = .agg ds ∧ (fun w x H ds => ∃ d r, ds = d :: r ∧ (fun _ s _ d => s.size ≤ maxLen ∧ d = .lit (.string s.data.toList)) w x.1 H d ∧ (fun w x H ds => ∃ d r, ds = d :: r ∧ SMatch.ok w x.1 H d ∧ (fun w x H ds => ∃ d r, ds = d :: r ∧ (fun _ n _ _ => Fit n) w x.1 H d ∧ (fun w x H ds => ∃ d r, ds = d :: r ∧ (fun _ n _ _ => Fit n) w x.1 H d ∧ (fun w x H ds => ∃ d r, ds = d :: r ∧ (fun _ s _ d => s.size ≤ maxLen ∧ d = .lit (.string s.data.toList)) w x.1 H d ∧ (fun w a H ds => ∃ d, ds = [d] ∧ (fun _ s _ d => s.size ≤ maxLen ∧ d = .lit (.string s.data.toList)) w a H d) w x.2 H r) w x.2 H r) w x.2 H r) w x.2 H r) w x.2 H r) w (SRule.of x) H ds
theorem opn76 : Opn Tryz.prog 76 eRule SRule.ok := opn_struct Tryz.underlying76 (by kernel_rfl) (OpnF.cons rfl (opn_s Tryz.underlying9 (by kernel_rfl)) (OpnF.cons rfl opn74 (OpnF.cons rfl (opn_i Tryz.underlying3 (by kernel_rfl)) (OpnF.cons rfl (opn_i Tryz.underlying3 (by kernel_rfl)) (OpnF.cons rfl (opn_s Tryz.underlying9 (by kernel_rfl)) (OpnF.one rfl (opn_s Tryz.underlying9 (by kernel_rfl)))))))) (fun _ => rfl)
def SBucket.ok : Kn SBucket := fun w x H d => ∃ ds, d = .agg ds ∧ (fun w x H ds => ∃ d r, ds = d :: r ∧ (fun _ _ _ _ => True) w x.1 H d ∧ (fun w x H ds => ∃ d r, ds = d :: r ∧ (fun _ _ _ _ => True) w x.1 H d ∧ (fun w a H ds => ∃ d, ds = [d] ∧ (fun _ _ _ _ => True) w a H d) w x.2 H r) w x.2 H r) w (SBucket.of x) H ds
theorem opn55 : Opn Tryz.prog 55 eBucket SBucket.ok := opn_struct Tryz.underlying55 (by kernel_rfl) (OpnF.cons rfl (opn_u64 Tryz.underlying53 (by kernel_rfl)) (OpnF.cons rfl (opn_u64 Tryz.underlying53 (by kernel_rfl)) (OpnF.one rfl (opn_u64 Tryz.underlying53 (by kernel_rfl))))) (fun _ => rfl)
def SMeterConf.ok : Kn SMeterConf := fun w x H d => ∃ ds, d = .agg ds ∧ (fun w x H ds => ∃ d r, ds = d :: r ∧ (fun _ s _ d => s.size ≤ maxLen ∧ d = .lit (.string s.data.toList)) w x.1 H d ∧ (fun w a H ds => ∃ d, ds = [d] ∧ SBucket.ok w a H d) w x.2 H r) w (SMeterConf.of x) H ds
theorem opn57 : Opn Tryz.prog 57 eMeterConf SMeterConf.ok := opn_struct Tryz.underlying57 (by kernel_rfl) (OpnF.cons rfl (opn_s Tryz.underlying9 (by kernel_rfl)) (OpnF.one rfl opn55)) (fun _ => rfl)
def SMirrorConf.ok : Kn SMirrorConf := fun w x H d => ∃ ds, d = .agg ds ∧ (fun w x H ds => ∃ d r, ds = d :: r ∧ (fun _ s _ d => s.size ≤ maxLen ∧ d = .lit (.string s.data.toList)) w x.1 H d ∧ (fun w x H ds => ∃ d r, ds = d :: r ∧ (fun _ n _ _ => Fit n) w x.1 H d ∧ (fun w a H ds => ∃ d, ds = [d] ∧ (fun _ n _ _ => Fit n) w a H d) w x.2 H r) w x.2 H r) w (SMirrorConf.of x) H ds
theorem opn59 : Opn Tryz.prog 59 eMirrorConf SMirrorConf.ok := opn_struct Tryz.underlying59 (by kernel_rfl) (OpnF.cons rfl (opn_s Tryz.underlying9 (by kernel_rfl)) (OpnF.cons rfl (opn_i Tryz.underlying3 (by kernel_rfl)) (OpnF.one rfl (opn_i Tryz.underlying3 (by kernel_rfl))))) (fun _ => rfl)
def SConf.ok : Kn SConf := fun w x H d => ∃ ds, d = .agg ds ∧ (fun w x H ds => ∃ d r, ds = d :: r ∧ (SlQ iE (fun _ n _ _ => Fit n)) w x.1 H d ∧ (fun w x H ds => ∃ d r, ds = d :: r ∧ (SlQ eRoute SRoute.ok) w x.1 H d ∧ (fun w x H ds => ∃ d r, ds = d :: r ∧ (SlQ eRule SRule.ok) w x.1 H d ∧ (fun w x H ds => ∃ d r, ds = d :: r ∧ (SlQ eMeterConf SMeterConf.ok) w x.1 H d ∧ (fun w x H ds => ∃ d r, ds = d :: r ∧ (SlQ eMirrorConf SMirrorConf.ok) w x.1 H d ∧ (fun w a H ds => ∃ d, ds = [d] ∧ (fun _ n _ _ => Fit n) w a H d) w x.2 H r) w x.2 H r) w x.2 H r) w x.2 H r) w x.2 H r) w (SConf.of x) H ds
theorem opn28 : Opn Tryz.prog 28 eConf SConf.ok := opn_struct Tryz.underlying28 (by kernel_rfl) (OpnF.cons rfl (opn_sl (opn_i Tryz.underlying3 (by kernel_rfl)) Tryz.underlying22 (by kernel_rfl) rfl) (OpnF.cons rfl (opn_sl opn52 Tryz.underlying23 (by kernel_rfl) rfl) (OpnF.cons rfl (opn_sl opn76 Tryz.underlying24 (by kernel_rfl) rfl) (OpnF.cons rfl (opn_sl opn57 Tryz.underlying25 (by kernel_rfl) rfl) (OpnF.cons rfl (opn_sl opn59 Tryz.underlying26 (by kernel_rfl) rfl) (OpnF.one rfl (opn_i Tryz.underlying3 (by kernel_rfl)))))))) (fun _ => rfl)
theorem name_of {w : World} {H : Type} {α : Type} {xs : List α} {ds : List (DataW H)} {Q : World → α → DataW H → Prop} {f : α → ByteArray} (hl : xs.length = ds.length) (hq : ∀ i (h1 : i < xs.length) (h2 : i < ds.length), Q w xs[i] ds[i]) (hf : ∀ w x d, Q w x d → (f x).size ≤ 9223372036854775807) : ∀ x ∈ xs, (f x).size ≤ 9223372036854775807 := fun x hx => by
  obtain ⟨i, hi, rfl⟩ := List.mem_iff_getElem.1 hx
  exact hf _ _ _ (hq i hi (by omega))
theorem conf_open {H : Type} {w : World} {c : SConf} {d : DataW H} (hq : SConf.ok w c H d) : ∃ l : CL, ConfAt w c l ∧ l.Names := by
  obtain ⟨ds0, rfl, d1, r1, rfl, q1, d2, r2, rfl, q2, d3, r3, rfl, q3, d4, r4, rfl, q4, d5, r5, rfl, q5, _⟩ := hq
  obtain ⟨ps, e1, h1, _⟩ := q1
  obtain ⟨rs, e2, h2, _⟩ := q2
  obtain ⟨us, e3, h3, _, l3, n3⟩ := q3
  obtain ⟨ms, e4, h4, _, l4, n4⟩ := q4
  obtain ⟨xs, e5, h5, _, l5, n5⟩ := q5
  refine ⟨⟨ps, rs, us, ms, xs⟩, ⟨h1, h2, h3, h4, h5⟩, ⟨?_, ?_, ?_⟩⟩
  · exact name_of (Q := fun w x d => SRule.ok w x H d) l3 n3 (fun w x d ⟨_, _, _, _, _, h, _⟩ => h.1)
  · exact name_of (Q := fun w x d => SMeterConf.ok w x H d) l4 n4 (fun w x d ⟨_, _, _, _, _, h, _⟩ => h.1)
  · exact name_of (Q := fun w x d => SMirrorConf.ok w x H d) l5 n5 (fun w x d ⟨_, _, _, _, _, h, _⟩ => h.1)
theorem slD_size {H : Type} {d : DataW H} {es : List (DataW H)} {ts : List TypeId} {ds : List (DataW H)} (h2 : SlD d es) (hz : (DataW.weightsEach Tryz.prog ts ds).all (· ≤ reachBytes) = true) {j n : Nat} {t e : TypeId} (ht : ts[j]? = some t) (hd : ds[j]? = some d) (hu : Tryz.prog.underlying t = some (.slice e)) (hb : Tryz.prog.bytesOf e = n) : es.length * n ≤ 140737488351232 := by
  rcases h2 with rfl | ⟨sp, rfl⟩
  · simp
  · have h5 := sized_slice hz ht hd hu
    rw [hb] at h5
    have h6 : reachBytes = 140737488351232 := by decide
    rw [h6] at h5
    have h7 : es.length * n ≤ (es.length + sp.length) * n := Nat.mul_le_mul_right _ (by omega)
    omega
theorem conf_sized {H : Type} {w : World} {c : SConf} {d : DataW H} {ts : List TypeId} {ds : List (DataW H)} (hq : SConf.ok w c H d) (hz : (DataW.weightsEach Tryz.prog ts ds).all (· ≤ reachBytes) = true) {j : Nat} (ht : ts[j]? = some 28) (hd : ds[j]? = some d) : ∃ l : CL, ConfAt w c l ∧ l.Names ∧ l.n ≤ 4611686018427387904 := by
  obtain ⟨ds0, rfl, d1, r1, rfl, q1, d2, r2, rfl, q2, d3, r3, rfl, q3, d4, r4, rfl, q4, d5, r5, rfl, q5, _⟩ := hq
  have hz2 := sized_agg hz ht hd Tryz.underlying28
  obtain ⟨ps, e1, h1, g1, l1, _⟩ := q1
  obtain ⟨rs, e2, h2, g2, l2, _⟩ := q2
  obtain ⟨us, e3, h3, g3, l3, n3⟩ := q3
  obtain ⟨ms, e4, h4, g4, l4, n4⟩ := q4
  obtain ⟨xs, e5, h5, g5, l5, n5⟩ := q5
  have z1 := slD_size g1 hz2 (j := 0) (by kernel_rfl) rfl Tryz.underlying22 (by kernel_rfl : Tryz.prog.bytesOf 3 = 8)
  have z2 := slD_size g2 hz2 (j := 1) (by kernel_rfl) rfl Tryz.underlying23 (by kernel_rfl : Tryz.prog.bytesOf 52 = 40)
  have z3 := slD_size g3 hz2 (j := 2) (by kernel_rfl) rfl Tryz.underlying24 (by kernel_rfl : Tryz.prog.bytesOf 76 = 152)
  have z4 := slD_size g4 hz2 (j := 3) (by kernel_rfl) rfl Tryz.underlying25 (by kernel_rfl : Tryz.prog.bytesOf 57 = 40)
  have z5 := slD_size g5 hz2 (j := 4) (by kernel_rfl) rfl Tryz.underlying26 (by kernel_rfl : Tryz.prog.bytesOf 59 = 32)
  refine ⟨⟨ps, rs, us, ms, xs⟩, ⟨h1, h2, h3, h4, h5⟩, ⟨?_, ?_, ?_⟩, ?_⟩
  · exact name_of (Q := fun w x d => SRule.ok w x H d) l3 n3 (fun w x d ⟨_, _, _, _, _, h, _⟩ => h.1)
  · exact name_of (Q := fun w x d => SMeterConf.ok w x H d) l4 n4 (fun w x d ⟨_, _, _, _, _, h, _⟩ => h.1)
  · exact name_of (Q := fun w x d => SMirrorConf.ok w x H d) l5 n5 (fun w x d ⟨_, _, _, _, _, h, _⟩ => h.1)
  · show ps.length + rs.length + us.length + ms.length + xs.length ≤ _
    omega
set_option maxRecDepth 100000 in
theorem confSpared_contract (H : Type) (enc : TypeId × Value → H) (W : World) (base : Nat) (args : Array Value) (ds gs : List (DataW H)) (before : List MemPlace)
    (hval0 : ∀ (j : Nat) t v, Tryz.f8.params[j]? = some t → args[j]? = some v → Value.okWide Tryz.prog W .any base t v)
    (hW : DataW.Whole enc Tryz.prog Tryz.f8.params.toList Rows.confSparedSpec.vars false W args.toList ds gs before) (hsz : (DataW.weightsEach Tryz.prog (Tryz.f8.params.toList ++ Rows.confSparedSpec.plain.varTypes Tryz.prog) (ds ++ gs)).all (· ≤ reachBytes) = true) :
    Calls Tryz.prog 8 args W fun e W' => ∃ v, e = .returned v ∧ Rows.confSparedSpec.post enc Tryz.prog Tryz.f8 false true false false W args v W' := by
  have hval : ∀ (j : Nat) t v, Tryz.f8.params[j]? = some t → args[j]? = some v → Value.okWide Tryz.prog W .any base t v := hval0
  have hW' := hW
  obtain ⟨p, q, hA0, hV, rfl, hfz, hnd⟩ := hW
  have hA : DataW.TrodAll enc Tryz.prog W 0 (fun _ => true) true Tryz.f8.params.toList args.toList ds p := hA0
  rw [Tryz.params8] at hA hval
  obtain ⟨v0, vs0, d0, ds0, p0, r0, hargs, rfl, rfl, h0, t0⟩ := trodAll_cons hA
  obtain ⟨rfl, rfl, rfl⟩ := trodAll_nil t0
  obtain rfl : args = #[v0] := by cases args; simp_all
  obtain ⟨rfl, rfl⟩ := trodVars_none hV
  have k0 := h0
  have lt0 : ∀ x ∈ p0, x.block < W.heap.size := by obtain ⟨m, hm⟩ := k0; exact DataW.trod_lt m _ _ _ hm
  obtain ⟨a0, rfl, q0⟩ := Opn.open opn28 (hval 0 28 v0 rfl rfl) h0
  clear hA0 hval0
  obtain ⟨l0, hc0, hn0, hz0⟩ := conf_sized q0 hsz (j := 0) rfl rfl
  refine (ConfSpared_walk a0 l0 W hc0 hn0 hz0).mono fun e W' he => ?_
  obtain ⟨rfl, bel⟩ := he.below
  exact ⟨_, rfl, _, _, _, [], _, [], hW', trodAll_mk1 (shut_bool Tryz.underlying4 _), (trodAll_cons_mk (Below.trod laidOut (by kernel_rfl) (of_decide_eq_true (by kernel_rfl)) k0 bel lt0) trodAll_mk0), rfl, bel.frame _, fun h => by cases h⟩
set_option maxRecDepth 100000 in
theorem confSpared_lifted (os : Os) (started : os.Started) (H : Type) (enc : TypeId × Value → H) :
    ReturnsInHanded {} Tryz.checked os 8 .any (Rows.confSparedSpec.pre6 enc Tryz.prog Tryz.f8 Rows.confSparedRow.domain false) (Rows.confSparedSpec.post enc Tryz.prog Tryz.f8 false true false false) := by
  refine returnsInHanded_of_change_sized (C := Tryz.checked) own started (by kernel_rfl) Tryz.func8
    (ChangeSpec.witness6 (enc := enc) (C := Tryz.checked) false ⟨#[], #[eConf.val eConf.zero], []⟩ 8 (by kernel_rfl) (by kernel_rfl) (by kernel_rfl) (by kernel_rfl)) ?_
  intro W base args ds gs before hval hW _ hsz _
  exact confSpared_contract H enc W base args ds gs before hval hW hsz
theorem claimConfSpared : Rows.ConfSparedSaid :=
  OpenClaim.holds_of_wide 8 Tryz.f8 rfl rfl rfl rfl rfl rfl rfl ⟨rfl, rfl, rfl, rfl, rfl⟩ rfl rfl rfl rfl rfl (by kernel_rfl) Tryz.func8 (by kernel_rfl)
    (of_decide_eq_true (by kernel_rfl)) (by unfold Func.isWrapper; first | (rw [if_pos (by decide +kernel)]; kernel_rfl) | (rw [if_neg (by decide +kernel)]; exact ⟨rfl, rfl⟩))
    (fun os started H enc _ => confSpared_lifted os started H enc)
end Go.Proofs.YtnoobdijbpmjkaaGreat
