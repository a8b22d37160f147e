/- last texts -/
import Derived.Test.YtpdanbpipabboaaF8
import Derived.Test.YtpdanbpipabboaaGxG
set_option linter.unusedVariables false
set_option linter.unusedSimpArgs false
namespace Go.Proofs.Ytpdanbpipabboaa
open Go.ChangeShapes Go.WideShapes Go.ChangeAt Go.RowKit
open Go Go.Gx
theorem own : ownKnob Try.prog.godebug = none := by kernel_rfl
theorem laidOut : laidOutB Try.prog = true := by kernel_rfl

def SAddr.ok (w : World) (x : SAddr) : Prop := ((fun _ _ => True) w x.v6) ∧ ((fun w v => ∀ i (hi : i < 16), (fun _ _ => True) w v[i]) w x.b)

theorem opn24 : Opn Try.prog 24 eAddr SAddr.ok := opn_struct Try.underlying24 (by kernel_rfl) (OpnF.cons rfl (opn_b Try.underlying4 (by kernel_rfl)) (OpnF.one rfl (opn_arr (opn_u8 Try.underlying5 (by kernel_rfl)) Try.underlying22 (by kernel_rfl)))) (fun _ => rfl)

def SHeader.ok (w : World) (x : SHeader) : Prop := (SAddr.ok w x.src) ∧ (SAddr.ok w x.dst) ∧ ((fun _ _ => True) w x.proto) ∧ ((fun _ _ => True) w x.srcPort) ∧ ((fun _ _ => True) w x.dstPort) ∧ ((fun _ _ => True) w x.tTL) ∧ ((fun _ _ => True) w x.class_) ∧ ((fun _ _ => True) w x.id) ∧ ((fun _ _ => True) w x.flags) ∧ ((fun _ _ => True) w x.seq) ∧ ((SlQ u8E (fun _ _ => True)) w x.data)

theorem opn34 : Opn Try.prog 34 eHeader SHeader.ok := opn_struct Try.underlying34 (by kernel_rfl) (OpnF.cons rfl opn24 (OpnF.cons rfl opn24 (OpnF.cons rfl (opn_u8 Try.underlying5 (by kernel_rfl)) (OpnF.cons rfl (opn_u16 Try.underlying25 (by kernel_rfl)) (OpnF.cons rfl (opn_u16 Try.underlying25 (by kernel_rfl)) (OpnF.cons rfl (opn_u8 Try.underlying5 (by kernel_rfl)) (OpnF.cons rfl (opn_u8 Try.underlying5 (by kernel_rfl)) (OpnF.cons rfl (opn_u32 Try.underlying31 (by kernel_rfl)) (OpnF.cons rfl (opn_u8 Try.underlying5 (by kernel_rfl)) (OpnF.cons rfl (opn_u32 Try.underlying31 (by kernel_rfl)) (OpnF.one rfl (opn_sl (opn_u8 Try.underlying5 (by kernel_rfl)) Try.underlying32 (by kernel_rfl) rfl)))))))))))) (fun _ => rfl)

set_option maxRecDepth 100000 in
theorem flowOf_lifted (os : Os) (started : os.Started) (H : Type) (enc : TypeId × Value → H) :
    ReturnsInHanded {} Try.checked os 4 .any (Rows.flowOfSpec.pre6 enc Try.prog Try.f4 Rows.flowOfRow.domain false) (Rows.flowOfSpec.post enc Try.prog Try.f4 false true false false) := by
  refine returnsInHanded_of_change (C := Try.checked) own started (by kernel_rfl) Try.func4
    (ChangeSpec.witness6 (enc := enc) (C := Try.checked) false ⟨#[], #[eHeader.val eHeader.zero, eHeader.val eHeader.zero], []⟩ 8 (by kernel_rfl) (by kernel_rfl) (by kernel_rfl) (by kernel_rfl)) ?_
  intro W base args ds gs before hval0 hW hcnd _
  have hval : ∀ (j : Nat) t v, Try.f4.params[j]? = some t → args[j]? = some v → Value.okWide Try.prog W .any base t v := hval0
  have hW' := hW
  obtain ⟨p, q, hA0, hV, rfl, hfz, hnd⟩ := hW
  have hA : DataW.TrodAll enc Try.prog W 0 (fun _ => true) true Try.f4.params.toList args.toList ds p := hA0
  rw [Try.params4] at hA hval
  obtain ⟨v0, vs0, d0, ds0, p0, r0, hargs, rfl, rfl, h0, t0⟩ := trodAll_cons hA
  obtain ⟨v1, vs1, d1, ds1, p1, r1, rfl, rfl, rfl, h1, t1⟩ := trodAll_cons t0
  obtain ⟨rfl, rfl, rfl⟩ := trodAll_nil t1
  obtain rfl : args = #[v0, v1] := by cases args; simp_all
  obtain ⟨rfl, rfl⟩ := trodVars_none hV
  have k0 := h0
  have lt0 : ∀ x ∈ p0, x.block < W.heap.size := by obtain ⟨m, hm⟩ := k0; exact DataW.trod_lt m _ _ _ hm
  obtain ⟨a0, rfl, q0⟩ := Opn.open opn34 (hval 0 34 v0 rfl rfl) h0
  have k1 := h1
  have lt1 : ∀ x ∈ p1, x.block < W.heap.size := by obtain ⟨m, hm⟩ := k1; exact DataW.trod_lt m _ _ _ hm
  obtain ⟨a1, rfl, q1⟩ := Opn.open opn34 (hval 1 34 v1 rfl rfl) h1
  clear hA0 hval0
  refine (FlowOf_walk a0 a1 W).mono fun e W' he => ?_
  obtain ⟨rfl, bel⟩ := he.below
  exact ⟨_, rfl, _, _, _, [], _, [], hW', trodAll_mk1 (shut_bool Try.underlying4 _), (trodAll_cons_mk (Below.trod laidOut (by kernel_rfl) (of_decide_eq_true (by kernel_rfl)) k0 bel lt0) (trodAll_cons_mk (Below.trod laidOut (by kernel_rfl) (of_decide_eq_true (by kernel_rfl)) k1 bel lt1) trodAll_mk0)), rfl, bel.frame _, fun h => by cases h⟩

theorem claimFlowOf : Rows.FlowOfSaid :=
  OpenClaim.holds_of_wide 4 Try.f4 rfl rfl rfl rfl rfl rfl rfl ⟨rfl, rfl, rfl, rfl, rfl⟩ rfl rfl rfl rfl rfl (by kernel_rfl) Try.func4 (by kernel_rfl)
    (of_decide_eq_true (by kernel_rfl)) (by unfold Func.isWrapper; first | (rw [if_pos (by decide +kernel)]; kernel_rfl) | (rw [if_neg (by decide +kernel)]; exact ⟨rfl, rfl⟩))
    (fun os started H enc _ => flowOf_lifted os started H enc)
end Go.Proofs.Ytpdanbpipabboaa
