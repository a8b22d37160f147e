/- Of all three matches: covering goes on; apart either way. No conditions. -/
import Derived.Test.YtkmdhmfgbgngeaaR14
import Derived.Test.YtkmdhmfgbgngeaaGxG
set_option linter.unusedVariables false
set_option linter.unusedSimpArgs false
namespace Go.Proofs.Ytkmdhmfgbgngeaa
open Go.ChangeShapes Go.WideShapes Go.ChangeAt Go.RowKit
open Go Go.Gx
theorem own : ownKnob Try.prog.godebug = none := by kernel_rfl
theorem laidOut : laidOutB Try.prog = true := by kernel_rfl

def SSpan.ok : Kn SSpan := fun w x H d => ∃ ds, d = .agg ds ∧ (fun w x H ds => ∃ d r, ds = d :: r ∧ (fun _ _ _ _ => True) w x.1 H d ∧ (fun w a H ds => ∃ d, ds = [d] ∧ (fun _ _ _ _ => True) w a H d) w x.2 H r) w (SSpan.of x) H ds

theorem opn24 : Opn Try.prog 24 eSpan SSpan.ok := opn_struct Try.underlying24 (by kernel_rfl) (OpnF.cons rfl (opn_u16 Try.underlying22 (by kernel_rfl)) (OpnF.one rfl (opn_u16 Try.underlying22 (by kernel_rfl)))) (fun _ => rfl)

def SAddr.ok : Kn SAddr := fun w x H d => ∃ ds, d = .agg ds ∧ (fun w x H ds => ∃ d r, ds = d :: r ∧ (fun _ _ _ _ => True) w x.1 H d ∧ (fun w a H ds => ∃ d, ds = [d] ∧ (fun w v H d => ∃ ds, d = .agg ds ∧ ∀ i (hi : i < 16) (h2 : i < ds.length), (fun _ _ _ _ => True) w v[i] H ds[i]) w a H d) w x.2 H r) w (SAddr.of x) H ds

theorem opn27 : Opn Try.prog 27 eAddr SAddr.ok := opn_struct Try.underlying27 (by kernel_rfl) (OpnF.cons rfl (opn_b Try.underlying4 (by kernel_rfl)) (OpnF.one rfl (opn_arr (opn_u8 Try.underlying5 (by kernel_rfl)) Try.underlying25 (by kernel_rfl)))) (fun _ => rfl)

def SPrefix.ok : Kn SPrefix := fun w x H d => ∃ ds, d = .agg ds ∧ (fun w x H ds => ∃ d r, ds = d :: r ∧ SAddr.ok w x.1 H d ∧ (fun w a H ds => ∃ d, ds = [d] ∧ (fun _ n _ _ => Fit n) w a H d) w x.2 H r) w (SPrefix.of x) H ds

theorem opn29 : Opn Try.prog 29 ePrefix SPrefix.ok := opn_struct Try.underlying29 (by kernel_rfl) (OpnF.cons rfl opn27 (OpnF.one rfl (opn_i Try.underlying3 (by kernel_rfl)))) (fun _ => rfl)

def SMatch.ok : Kn SMatch := fun w x H d => ∃ ds, d = .agg ds ∧ (fun w x H ds => ∃ d r, ds = d :: r ∧ (fun _ _ _ _ => True) w x.1 H d ∧ (fun w x H ds => ∃ d r, ds = d :: r ∧ SSpan.ok w x.1 H d ∧ (fun w x H ds => ∃ d r, ds = d :: r ∧ SPrefix.ok w x.1 H d ∧ (fun w x H ds => ∃ d r, ds = d :: r ∧ SPrefix.ok w x.1 H d ∧ (fun w x H ds => ∃ d r, ds = d :: r ∧ (fun _ _ _ _ => True) w x.1 H d ∧ (fun w x H ds => ∃ d r, ds = d :: r ∧ SSpan.ok w x.1 H d ∧ (fun w a H ds => ∃ d, ds = [d] ∧ SSpan.ok w a H d) w x.2 H r) w x.2 H r) w x.2 H r) w x.2 H r) w x.2 H r) w x.2 H r) w (SMatch.of x) H ds

theorem opn31 : Opn Try.prog 31 eMatch SMatch.ok := opn_struct Try.underlying31 (by kernel_rfl) (OpnF.cons rfl (opn_u8 Try.underlying5 (by kernel_rfl)) (OpnF.cons rfl opn24 (OpnF.cons rfl opn29 (OpnF.cons rfl opn29 (OpnF.cons rfl (opn_u8 Try.underlying5 (by kernel_rfl)) (OpnF.cons rfl opn24 (OpnF.one rfl opn24))))))) (fun _ => rfl)

set_option maxRecDepth 100000 in
theorem ruleSets_contract (H : Type) (enc : TypeId × Value → H) (W : World) (base : Nat) (args : Array Value) (ds gs : List (DataW H)) (before : List MemPlace)
    (hval0 : ∀ (j : Nat) t v, Try.f8.params[j]? = some t → args[j]? = some v → Value.okWide Try.prog W .any base t v)
    (hW : DataW.Whole enc Try.prog Try.f8.params.toList Rows.ruleSetsSpec.vars false W args.toList ds gs before) :
    Calls Try.prog 8 args W fun e W' => ∃ v, e = .returned v ∧ Rows.ruleSetsSpec.post enc Try.prog Try.f8 false true false false W args v W' := by
  have hval : ∀ (j : Nat) t v, Try.f8.params[j]? = some t → args[j]? = some v → Value.okWide Try.prog W .any base t v := hval0
  have hW' := hW
  obtain ⟨p, q, hA0, hV, rfl, hfz, hnd⟩ := hW
  have hA : DataW.TrodAll enc Try.prog W 0 (fun _ => true) true Try.f8.params.toList args.toList ds p := hA0
  rw [Try.params8] at hA hval
  obtain ⟨v0, vs0, d0, ds0, p0, r0, hargs, rfl, rfl, h0, t0⟩ := trodAll_cons hA
  obtain ⟨v1, vs1, d1, ds1, p1, r1, rfl, rfl, rfl, h1, t1⟩ := trodAll_cons t0
  obtain ⟨v2, vs2, d2, ds2, p2, r2, rfl, rfl, rfl, h2, t2⟩ := trodAll_cons t1
  obtain ⟨rfl, rfl, rfl⟩ := trodAll_nil t2
  obtain rfl : args = #[v0, v1, v2] := by cases args; simp_all
  obtain ⟨rfl, rfl⟩ := trodVars_none hV
  have k0 := h0
  have lt0 : ∀ x ∈ p0, x.block < W.heap.size := by obtain ⟨m, hm⟩ := k0; exact DataW.trod_lt m _ _ _ hm
  obtain ⟨a0, rfl, q0⟩ := Opn.open opn31 (hval 0 31 v0 rfl rfl) h0
  have k1 := h1
  have lt1 : ∀ x ∈ p1, x.block < W.heap.size := by obtain ⟨m, hm⟩ := k1; exact DataW.trod_lt m _ _ _ hm
  obtain ⟨a1, rfl, q1⟩ := Opn.open opn31 (hval 1 31 v1 rfl rfl) h1
  have k2 := h2
  have lt2 : ∀ x ∈ p2, x.block < W.heap.size := by obtain ⟨m, hm⟩ := k2; exact DataW.trod_lt m _ _ _ hm
  obtain ⟨a2, rfl, q2⟩ := Opn.open opn31 (hval 2 31 v2 rfl rfl) h2
  clear hA0 hval0
  refine (RuleSets_walk a0 a1 a2 W).mono fun e W' he => ?_
  obtain ⟨rfl, bel⟩ := he.below
  exact ⟨_, rfl, _, _, _, [], _, [], hW', trodAll_mk1 (shut_bool Try.underlying4 _), (trodAll_cons_mk (Below.trod laidOut (by kernel_rfl) (of_decide_eq_true (by kernel_rfl)) k0 bel lt0) (trodAll_cons_mk (Below.trod laidOut (by kernel_rfl) (of_decide_eq_true (by kernel_rfl)) k1 bel lt1) (trodAll_cons_mk (Below.trod laidOut (by kernel_rfl) (of_decide_eq_true (by kernel_rfl)) k2 bel lt2) trodAll_mk0))), rfl, bel.frame _, fun h => by cases h⟩

set_option maxRecDepth 100000 in
theorem ruleSets_lifted (os : Os) (started : os.Started) (H : Type) (enc : TypeId × Value → H) :
    ReturnsInHanded {} Try.checked os 8 .any (Rows.ruleSetsSpec.pre6 enc Try.prog Try.f8 Rows.ruleSetsRow.domain false) (Rows.ruleSetsSpec.post enc Try.prog Try.f8 false true false false) := by
  refine returnsInHanded_of_change (C := Try.checked) own started (by kernel_rfl) Try.func8
    (ChangeSpec.witness6 (enc := enc) (C := Try.checked) false ⟨#[], #[eMatch.val eMatch.zero, eMatch.val eMatch.zero, eMatch.val eMatch.zero], []⟩ 8 (by kernel_rfl) (by kernel_rfl) (by kernel_rfl) (by kernel_rfl)) ?_
  intro W base args ds gs before hval hW _ _
  exact ruleSets_contract H enc W base args ds gs before hval hW

theorem claimRuleSets : Rows.RuleSetsSaid :=
  OpenClaim.holds_of_wide 8 Try.f8 rfl rfl rfl rfl rfl rfl rfl ⟨rfl, rfl, rfl, rfl, rfl⟩ rfl rfl rfl rfl rfl (by kernel_rfl) Try.func8 (by kernel_rfl)
    (of_decide_eq_true (by kernel_rfl)) (by unfold Func.isWrapper; first | (rw [if_pos (by decide +kernel)]; kernel_rfl) | (rw [if_neg (by decide +kernel)]; exact ⟨rfl, rfl⟩))
    (fun os started H enc _ => ruleSets_lifted os started H enc)
end Go.Proofs.Ytkmdhmfgbgngeaa
