/- Of all two matches: where it says no a packet shows it. No conditions. -/
import Derived.Test.YtkmdhmfgbgngeaaR24
import Derived.Test.YtkmdhmfgbgngeaaGxG
set_option linter.unusedVariables false
set_option linter.unusedSimpArgs false
namespace Go.Proofs.Ytkmdhmfgbgngeaa
open Go.ChangeShapes Go.WideShapes Go.ChangeAt Go.RowKit
open Go Go.Gx
theorem own : ownKnob Try.prog.godebug = none := by kernel_rfl
theorem laidOut : laidOutB Try.prog = true := by kernel_rfl

def SSpan.ok : Kn SSpan := fun w x H d => ∃ ds, d = .agg ds ∧ (fun w x H ds => ∃ d r, ds = d :: r ∧ (fun _ _ _ _ => True) w x.1 H d ∧ (fun w a H ds => ∃ d, ds = [d] ∧ (fun _ _ _ _ => True) w a H d) w x.2 H r) w (SSpan.of x) H ds

theorem opn24 : Opn Try.prog 24 eSpan SSpan.ok := opn_struct Try.underlying24 (by kernel_rfl) (OpnF.cons rfl (opn_u16 Try.underlying22 (by kernel_rfl)) (OpnF.one rfl (opn_u16 Try.underlying22 (by kernel_rfl)))) (fun _ => rfl)

def SAddr.ok : Kn SAddr := fun w x H d => ∃ ds, d = .agg ds ∧ (fun w x H ds => ∃ d r, ds = d :: r ∧ (fun _ _ _ _ => True) w x.1 H d ∧ (fun w a H ds => ∃ d, ds = [d] ∧ (fun w v H d => ∃ ds, d = .agg ds ∧ ∀ i (hi : i < 16) (h2 : i < ds.length), (fun _ _ _ _ => True) w v[i] H ds[i]) w a H d) w x.2 H r) w (SAddr.of x) H ds

theorem opn27 : Opn Try.prog 27 eAddr SAddr.ok := opn_struct Try.underlying27 (by kernel_rfl) (OpnF.cons rfl (opn_b Try.underlying4 (by kernel_rfl)) (OpnF.one rfl (opn_arr (opn_u8 Try.underlying5 (by kernel_rfl)) Try.underlying25 (by kernel_rfl)))) (fun _ => rfl)

def SPrefix.ok : Kn SPrefix := fun w x H d => ∃ ds, d = .agg ds ∧ (fun w x H ds => ∃ d r, ds = d :: r ∧ SAddr.ok w x.1 H d ∧ (fun w a H ds => ∃ d, ds = [d] ∧ (fun _ n _ _ => Fit n) w a H d) w x.2 H r) w (SPrefix.of x) H ds

theorem opn29 : Opn Try.prog 29 ePrefix SPrefix.ok := opn_struct Try.underlying29 (by kernel_rfl) (OpnF.cons rfl opn27 (OpnF.one rfl (opn_i Try.underlying3 (by kernel_rfl)))) (fun _ => rfl)

def SMatch.ok : Kn SMatch := fun w x H d => ∃ ds, d = .agg ds ∧ (fun w x H ds => ∃ d r, ds = d :: r ∧ (fun _ _ _ _ => True) w x.1 H d ∧ (fun w x H ds => ∃ d r, ds = d :: r ∧ SSpan.ok w x.1 H d ∧ (fun w x H ds => ∃ d r, ds = d :: r ∧ SPrefix.ok w x.1 H d ∧ (fun w x H ds => ∃ d r, ds = d :: r ∧ SPrefix.ok w x.1 H d ∧ (fun w x H ds => ∃ d r, ds = d :: r ∧ (fun _ _ _ _ => True) w x.1 H d ∧ (fun w x H ds => ∃ d r, ds = d :: r ∧ SSpan.ok w x.1 H d ∧ (fun w a H ds => ∃ d, ds = [d] ∧ SSpan.ok w a H d) w x.2 H r) w x.2 H r) w x.2 H r) w x.2 H r) w x.2 H r) w x.2 H r) w (SMatch.of x) H ds

theorem opn31 : Opn Try.prog 31 eMatch SMatch.ok := opn_struct Try.underlying31 (by kernel_rfl) (OpnF.cons rfl (opn_u8 Try.underlying5 (by kernel_rfl)) (OpnF.cons rfl opn24 (OpnF.cons rfl opn29 (OpnF.cons rfl opn29 (OpnF.cons rfl (opn_u8 Try.underlying5 (by kernel_rfl)) (OpnF.cons rfl opn24 (OpnF.one rfl opn24))))))) (fun _ => rfl)

set_option maxRecDepth 100000 in
theorem ruleWitness_contract (H : Type) (enc : TypeId × Value → H) (W : World) (base : Nat) (args : Array Value) (ds gs : List (DataW H)) (before : List MemPlace)
    (hval0 : ∀ (j : Nat) t v, Try.f9.params[j]? = some t → args[j]? = some v → Value.okWide Try.prog W .any base t v)
    (hW : DataW.Whole enc Try.prog Try.f9.params.toList Rows.ruleWitnessSpec.vars false W args.toList ds gs before) :
    Calls Try.prog 9 args W fun e W' => ∃ v, e = .returned v ∧ Rows.ruleWitnessSpec.post enc Try.prog Try.f9 false true false false W args v W' := by
  have hval : ∀ (j : Nat) t v, Try.f9.params[j]? = some t → args[j]? = some v → Value.okWide Try.prog W .any base t v := hval0
  have hW' := hW
  obtain ⟨p, q, hA0, hV, rfl, hfz, hnd⟩ := hW
  have hA : DataW.TrodAll enc Try.prog W 0 (fun _ => true) true Try.f9.params.toList args.toList ds p := hA0
  rw [Try.params9] at hA hval
  obtain ⟨v0, vs0, d0, ds0, p0, r0, hargs, rfl, rfl, h0, t0⟩ := trodAll_cons hA
  obtain ⟨v1, vs1, d1, ds1, p1, r1, rfl, rfl, rfl, h1, t1⟩ := trodAll_cons t0
  obtain ⟨rfl, rfl, rfl⟩ := trodAll_nil t1
  obtain rfl : args = #[v0, v1] := by cases args; simp_all
  obtain ⟨rfl, rfl⟩ := trodVars_none hV
  have k0 := h0
  have lt0 : ∀ x ∈ p0, x.block < W.heap.size := by obtain ⟨m, hm⟩ := k0; exact DataW.trod_lt m _ _ _ hm
  obtain ⟨a0, rfl, q0⟩ := Opn.open opn31 (hval 0 31 v0 rfl rfl) h0
  have k1 := h1
  have lt1 : ∀ x ∈ p1, x.block < W.heap.size := by obtain ⟨m, hm⟩ := k1; exact DataW.trod_lt m _ _ _ hm
  obtain ⟨a1, rfl, q1⟩ := Opn.open opn31 (hval 1 31 v1 rfl rfl) h1
  clear hA0 hval0
  refine (RuleWitness_walk a0 a1 W).mono fun e W' he => ?_
  obtain ⟨rfl, bel⟩ := he.below
  exact ⟨_, rfl, _, _, _, [], _, [], hW', trodAll_mk1 (shut_bool Try.underlying4 _), (trodAll_cons_mk (Below.trod laidOut (by kernel_rfl) (of_decide_eq_true (by kernel_rfl)) k0 bel lt0) (trodAll_cons_mk (Below.trod laidOut (by kernel_rfl) (of_decide_eq_true (by kernel_rfl)) k1 bel lt1) trodAll_mk0)), rfl, bel.frame _, fun h => by cases h⟩

set_option maxRecDepth 100000 in
theorem ruleWitness_lifted (os : Os) (started : os.Started) (H : Type) (enc : TypeId × Value → H) :
    ReturnsInHanded {} Try.checked os 9 .any (Rows.ruleWitnessSpec.pre6 enc Try.prog Try.f9 Rows.ruleWitnessRow.domain false) (Rows.ruleWitnessSpec.post enc Try.prog Try.f9 false true false false) := by
  refine returnsInHanded_of_change (C := Try.checked) own started (by kernel_rfl) Try.func9
    (ChangeSpec.witness6 (enc := enc) (C := Try.checked) false ⟨#[], #[eMatch.val eMatch.zero, eMatch.val eMatch.zero], []⟩ 8 (by kernel_rfl) (by kernel_rfl) (by kernel_rfl) (by kernel_rfl)) ?_
  intro W base args ds gs before hval hW _ _
  exact ruleWitness_contract H enc W base args ds gs before hval hW

theorem claimRuleWitness : Rows.RuleWitnessSaid :=
  OpenClaim.holds_of_wide 9 Try.f9 rfl rfl rfl rfl rfl rfl rfl ⟨rfl, rfl, rfl, rfl, rfl⟩ rfl rfl rfl rfl rfl (by kernel_rfl) Try.func9 (by kernel_rfl)
    (of_decide_eq_true (by kernel_rfl)) (by unfold Func.isWrapper; first | (rw [if_pos (by decide +kernel)]; kernel_rfl) | (rw [if_neg (by decide +kernel)]; exact ⟨rfl, rfl⟩))
    (fun os started H enc _ => ruleWitness_lifted os started H enc)
end Go.Proofs.Ytkmdhmfgbgngeaa
