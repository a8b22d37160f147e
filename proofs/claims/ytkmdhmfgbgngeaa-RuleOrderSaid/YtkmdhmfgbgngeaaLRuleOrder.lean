/- Of all lists of matches and packets: leaving out the dead ones changes no answer. No conditions. -/
import Derived.Test.YtkmdhmfgbgngeaaR18
import Derived.Test.YtkmdhmfgbgngeaaGxG
set_option linter.unusedVariables false
set_option linter.unusedSimpArgs false
namespace Go.Proofs.Ytkmdhmfgbgngeaa
open Go.ChangeShapes Go.WideShapes Go.ChangeAt Go.RowKit
open Go Go.Gx
theorem own : ownKnob Try.prog.godebug = none := by kernel_rfl
theorem laidOut : laidOutB Try.prog = true := by kernel_rfl

def SSpan.ok : Kn SSpan := fun w x H d => ∃ ds, d = .agg ds ∧ (fun w x H ds => ∃ d r, ds = d :: r ∧ (fun _ _ _ _ => True) w x.1 H d ∧ (fun w a H ds => ∃ d, ds = [d] ∧ (fun _ _ _ _ => True) w a H d) w x.2 H r) w (SSpan.of x) H ds

theorem opn24 : Opn Try.prog 24 eSpan SSpan.ok := opn_struct Try.underlying24 (by kernel_rfl) (OpnF.cons rfl (opn_u16 Try.underlying22 (by kernel_rfl)) (OpnF.one rfl (opn_u16 Try.underlying22 (by kernel_rfl)))) (fun _ => rfl)

def SAddr.ok : Kn SAddr := fun w x H d => ∃ ds, d = .agg ds ∧ (fun w x H ds => ∃ d r, ds = d :: r ∧ (fun _ _ _ _ => True) w x.1 H d ∧ (fun w a H ds => ∃ d, ds = [d] ∧ (fun w v H d => ∃ ds, d = .agg ds ∧ ∀ i (hi : i < 16) (h2 : i < ds.length), (fun _ _ _ _ => True) w v[i] H ds[i]) w a H d) w x.2 H r) w (SAddr.of x) H ds

theorem opn27 : Opn Try.prog 27 eAddr SAddr.ok := opn_struct Try.underlying27 (by kernel_rfl) (OpnF.cons rfl (opn_b Try.underlying4 (by kernel_rfl)) (OpnF.one rfl (opn_arr (opn_u8 Try.underlying5 (by kernel_rfl)) Try.underlying25 (by kernel_rfl)))) (fun _ => rfl)

def SPrefix.ok : Kn SPrefix := fun w x H d => ∃ ds, d = .agg ds ∧ (fun w x H ds => ∃ d r, ds = d :: r ∧ SAddr.ok w x.1 H d ∧ (fun w a H ds => ∃ d, ds = [d] ∧ (fun _ n _ _ => Fit n) w a H d) w x.2 H r) w (SPrefix.of x) H ds

theorem opn29 : Opn Try.prog 29 ePrefix SPrefix.ok := opn_struct Try.underlying29 (by kernel_rfl) (OpnF.cons rfl opn27 (OpnF.one rfl (opn_i Try.underlying3 (by kernel_rfl)))) (fun _ => rfl)

def SMatch.ok : Kn SMatch := fun w x H d => ∃ ds, d = .agg ds ∧ (fun w x H ds => ∃ d r, ds = d :: r ∧ (fun _ _ _ _ => True) w x.1 H d ∧ (fun w x H ds => ∃ d r, ds = d :: r ∧ SSpan.ok w x.1 H d ∧ (fun w x H ds => ∃ d r, ds = d :: r ∧ SPrefix.ok w x.1 H d ∧ (fun w x H ds => ∃ d r, ds = d :: r ∧ SPrefix.ok w x.1 H d ∧ (fun w x H ds => ∃ d r, ds = d :: r ∧ (fun _ _ _ _ => True) w x.1 H d ∧ (fun w x H ds => ∃ d r, ds = d :: r ∧ SSpan.ok w x.1 H d ∧ (fun w a H ds => ∃ d, ds = [d] ∧ SSpan.ok w a H d) w x.2 H r) w x.2 H r) w x.2 H r) w x.2 H r) w x.2 H r) w x.2 H r) w (SMatch.of x) H ds

theorem opn31 : Opn Try.prog 31 eMatch SMatch.ok := opn_struct Try.underlying31 (by kernel_rfl) (OpnF.cons rfl (opn_u8 Try.underlying5 (by kernel_rfl)) (OpnF.cons rfl opn24 (OpnF.cons rfl opn29 (OpnF.cons rfl opn29 (OpnF.cons rfl (opn_u8 Try.underlying5 (by kernel_rfl)) (OpnF.cons rfl opn24 (OpnF.one rfl opn24))))))) (fun _ => rfl)

def SHeader.ok : Kn SHeader := fun w x H d => ∃ ds, d = .agg ds ∧ (fun w x H ds => ∃ d r, ds = d :: r ∧ SAddr.ok w x.1 H d ∧ (fun w x H ds => ∃ d r, ds = d :: r ∧ SAddr.ok w x.1 H d ∧ (fun w x H ds => ∃ d r, ds = d :: r ∧ (fun _ _ _ _ => True) w x.1 H d ∧ (fun w x H ds => ∃ d r, ds = d :: r ∧ (fun _ _ _ _ => True) w x.1 H d ∧ (fun w x H ds => ∃ d r, ds = d :: r ∧ (fun _ _ _ _ => True) w x.1 H d ∧ (fun w x H ds => ∃ d r, ds = d :: r ∧ (fun _ _ _ _ => True) w x.1 H d ∧ (fun w x H ds => ∃ d r, ds = d :: r ∧ (fun _ _ _ _ => True) w x.1 H d ∧ (fun w x H ds => ∃ d r, ds = d :: r ∧ (fun _ _ _ _ => True) w x.1 H d ∧ (fun w x H ds => ∃ d r, ds = d :: r ∧ (fun _ _ _ _ => True) w x.1 H d ∧ (fun w x H ds => ∃ d r, ds = d :: r ∧ (fun _ _ _ _ => True) w x.1 H d ∧ (fun w a H ds => ∃ d, ds = [d] ∧ (SlQ u8E (fun _ _ _ _ => True)) w a H d) w x.2 H r) w x.2 H r) w x.2 H r) w x.2 H r) w x.2 H r) w x.2 H r) w x.2 H r) w x.2 H r) w x.2 H r) w x.2 H r) w (SHeader.of x) H ds

theorem opn35 : Opn Try.prog 35 eHeader SHeader.ok := opn_struct Try.underlying35 (by kernel_rfl) (OpnF.cons rfl opn27 (OpnF.cons rfl opn27 (OpnF.cons rfl (opn_u8 Try.underlying5 (by kernel_rfl)) (OpnF.cons rfl (opn_u16 Try.underlying22 (by kernel_rfl)) (OpnF.cons rfl (opn_u16 Try.underlying22 (by kernel_rfl)) (OpnF.cons rfl (opn_u8 Try.underlying5 (by kernel_rfl)) (OpnF.cons rfl (opn_u8 Try.underlying5 (by kernel_rfl)) (OpnF.cons rfl (opn_u32 Try.underlying32 (by kernel_rfl)) (OpnF.cons rfl (opn_u8 Try.underlying5 (by kernel_rfl)) (OpnF.cons rfl (opn_u32 Try.underlying32 (by kernel_rfl)) (OpnF.one rfl (opn_sl (opn_u8 Try.underlying5 (by kernel_rfl)) Try.underlying33 (by kernel_rfl) rfl)))))))))))) (fun _ => rfl)

def SLaw19Came.ok : Kn SLaw19Came := fun w x H d => ∃ ds, d = .agg ds ∧ (fun w x H ds => ∃ d r, ds = d :: r ∧ (fun _ n _ _ => Fit n) w x.1 H d ∧ (fun w a H ds => ∃ d, ds = [d] ∧ SHeader.ok w a H d) w x.2 H r) w (SLaw19Came.of x) H ds

theorem opn49 : Opn Try.prog 49 eLaw19Came SLaw19Came.ok := opn_struct Try.underlying49 (by kernel_rfl) (OpnF.cons rfl (opn_i Try.underlying3 (by kernel_rfl)) (OpnF.one rfl opn35)) (fun _ => rfl)

set_option maxRecDepth 100000 in
theorem ruleOrder_contract (H : Type) (enc : TypeId × Value → H) (W : World) (base : Nat) (args : Array Value) (ds gs : List (DataW H)) (before : List MemPlace)
    (hval0 : ∀ (j : Nat) t v, Try.f4.params[j]? = some t → args[j]? = some v → Value.okWide Try.prog W .any base t v)
    (hW : DataW.Whole enc Try.prog Try.f4.params.toList Rows.ruleOrderSpec.vars false W args.toList ds gs before) :
    Calls Try.prog 4 args W fun e W' => ∃ v, e = .returned v ∧ Rows.ruleOrderSpec.post enc Try.prog Try.f4 false true false false W args v W' := by
  have hval : ∀ (j : Nat) t v, Try.f4.params[j]? = some t → args[j]? = some v → Value.okWide Try.prog W .any base t v := hval0
  have hW' := hW
  obtain ⟨p, q, hA0, hV, rfl, hfz, hnd⟩ := hW
  have hA : DataW.TrodAll enc Try.prog W 0 (fun _ => true) true Try.f4.params.toList args.toList ds p := hA0
  rw [Try.params4] at hA hval
  obtain ⟨v0, vs0, d0, ds0, p0, r0, hargs, rfl, rfl, h0, t0⟩ := trodAll_cons hA
  obtain ⟨v1, vs1, d1, ds1, p1, r1, rfl, rfl, rfl, h1, t1⟩ := trodAll_cons t0
  obtain ⟨rfl, rfl, rfl⟩ := trodAll_nil t1
  obtain rfl : args = #[v0, v1] := by cases args; simp_all
  obtain ⟨rfl, rfl⟩ := trodVars_none hV
  have k0 := h0
  have lt0 : ∀ x ∈ p0, x.block < W.heap.size := by obtain ⟨m, hm⟩ := k0; exact DataW.trod_lt m _ _ _ hm
  obtain ⟨a0, rfl, q0⟩ := Opn.open (opn_sl opn31 Try.underlying41 (by kernel_rfl) rfl) (hval 0 41 v0 rfl rfl) h0
  have k1 := h1
  have lt1 : ∀ x ∈ p1, x.block < W.heap.size := by obtain ⟨m, hm⟩ := k1; exact DataW.trod_lt m _ _ _ hm
  obtain ⟨a1, rfl, q1⟩ := Opn.open (opn_sl opn49 Try.underlying42 (by kernel_rfl) rfl) (hval 1 42 v1 rfl rfl) h1
  clear hA0 hval0
  obtain ⟨xs0, es0, hx0, hd0, hl0, hq0⟩ := q0
  obtain ⟨xs1, es1, hx1, hd1, hl1, hq1⟩ := q1
  refine (RuleOrder_walk a0.v a1.v _ _ W hx0 hx1).mono fun e W' he => ?_
  obtain ⟨rfl, bel⟩ := he.below
  exact ⟨_, rfl, _, _, _, [], _, [], hW', trodAll_mk1 (shut_bool Try.underlying4 _), (trodAll_cons_mk (Below.trod laidOut (by kernel_rfl) (of_decide_eq_true (by kernel_rfl)) k0 bel lt0) (trodAll_cons_mk (Below.trod laidOut (by kernel_rfl) (of_decide_eq_true (by kernel_rfl)) k1 bel lt1) trodAll_mk0)), rfl, bel.frame _, fun h => by cases h⟩

set_option maxRecDepth 100000 in
theorem ruleOrder_lifted (os : Os) (started : os.Started) (H : Type) (enc : TypeId × Value → H) :
    ReturnsInHanded {} Try.checked os 4 .any (Rows.ruleOrderSpec.pre6 enc Try.prog Try.f4 Rows.ruleOrderRow.domain false) (Rows.ruleOrderSpec.post enc Try.prog Try.f4 false true false false) := by
  refine returnsInHanded_of_change (C := Try.checked) own started (by kernel_rfl) Try.func4
    (ChangeSpec.witness6 (enc := enc) (C := Try.checked) false ⟨#[], #[(ovE nilSl).val (ovE nilSl).zero, (ovE nilSl).val (ovE nilSl).zero], []⟩ 8 (by kernel_rfl) (by kernel_rfl) (by kernel_rfl) (by kernel_rfl)) ?_
  intro W base args ds gs before hval hW _ _
  exact ruleOrder_contract H enc W base args ds gs before hval hW

theorem claimRuleOrder : Rows.RuleOrderSaid :=
  OpenClaim.holds_of_wide 4 Try.f4 rfl rfl rfl rfl rfl rfl rfl ⟨rfl, rfl, rfl, rfl, rfl⟩ rfl rfl rfl rfl rfl (by kernel_rfl) Try.func4 (by kernel_rfl)
    (of_decide_eq_true (by kernel_rfl)) (by unfold Func.isWrapper; first | (rw [if_pos (by decide +kernel)]; kernel_rfl) | (rw [if_neg (by decide +kernel)]; exact ⟨rfl, rfl⟩))
    (fun os started H enc _ => ruleOrder_lifted os started H enc)
end Go.Proofs.Ytkmdhmfgbgngeaa
