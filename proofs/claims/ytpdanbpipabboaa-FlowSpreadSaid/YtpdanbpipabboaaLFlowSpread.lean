/- last texts -/
import Derived.Test.YtpdanbpipabboaaF10
import Derived.Test.YtpdanbpipabboaaGxG
set_option linter.unusedVariables false
set_option linter.unusedSimpArgs false
namespace Go.Proofs.Ytpdanbpipabboaa
open Go.ChangeShapes Go.WideShapes Go.ChangeAt Go.RowKit
open Go Go.Gx
theorem own : ownKnob Try.prog.godebug = none := by kernel_rfl
theorem laidOut : laidOutB Try.prog = true := by kernel_rfl

def SAddr.ok (w : World) (x : SAddr) : Prop := ((fun _ _ => True) w x.v6) ∧ ((fun w v => ∀ i (hi : i < 16), (fun _ _ => True) w v[i]) w x.b)

theorem opn24 : Opn Try.prog 24 eAddr SAddr.ok := opn_struct Try.underlying24 (by kernel_rfl) (OpnF.cons rfl (opn_b Try.underlying4 (by kernel_rfl)) (OpnF.one rfl (opn_arr (opn_u8 Try.underlying5 (by kernel_rfl)) Try.underlying22 (by kernel_rfl)))) (fun _ => rfl)

def SKey.ok (w : World) (x : SKey) : Prop := (SAddr.ok w x.src) ∧ (SAddr.ok w x.dst) ∧ ((fun _ _ => True) w x.proto) ∧ ((fun _ _ => True) w x.srcPort) ∧ ((fun _ _ => True) w x.dstPort)

theorem opn27 : Opn Try.prog 27 eKey SKey.ok := opn_struct Try.underlying27 (by kernel_rfl) (OpnF.cons rfl opn24 (OpnF.cons rfl opn24 (OpnF.cons rfl (opn_u8 Try.underlying5 (by kernel_rfl)) (OpnF.cons rfl (opn_u16 Try.underlying25 (by kernel_rfl)) (OpnF.one rfl (opn_u16 Try.underlying25 (by kernel_rfl))))))) (fun _ => rfl)

set_option maxRecDepth 100000 in
theorem flowSpread_lifted (os : Os) (started : os.Started) (H : Type) (enc : TypeId × Value → H) :
    ReturnsInHanded {} Try.checked os 8 .any (Rows.flowSpreadSpec.pre6 enc Try.prog Try.f8 Rows.flowSpreadRow.domain false) (Rows.flowSpreadSpec.post enc Try.prog Try.f8 false true false false) := by
  refine returnsInHanded_of_change (C := Try.checked) own started (by kernel_rfl) Try.func8
    (ChangeSpec.witness6 (enc := enc) (C := Try.checked) false ⟨#[], #[eKey.val eKey.zero], []⟩ 8 (by kernel_rfl) (by kernel_rfl) (by kernel_rfl) (by kernel_rfl)) ?_
  intro W base args ds gs before hval0 hW hcnd _
  have hval : ∀ (j : Nat) t v, Try.f8.params[j]? = some t → args[j]? = some v → Value.okWide Try.prog W .any base t v := hval0
  have hW' := hW
  obtain ⟨p, q, hA0, hV, rfl, hfz, hnd⟩ := hW
  have hA : DataW.TrodAll enc Try.prog W 0 (fun _ => true) true Try.f8.params.toList args.toList ds p := hA0
  rw [Try.params8] at hA hval
  obtain ⟨v0, vs0, d0, ds0, p0, r0, hargs, rfl, rfl, h0, t0⟩ := trodAll_cons hA
  obtain ⟨rfl, rfl, rfl⟩ := trodAll_nil t0
  obtain rfl : args = #[v0] := by cases args; simp_all
  obtain ⟨rfl, rfl⟩ := trodVars_none hV
  have k0 := h0
  have lt0 : ∀ x ∈ p0, x.block < W.heap.size := by obtain ⟨m, hm⟩ := k0; exact DataW.trod_lt m _ _ _ hm
  obtain ⟨a0, rfl, q0⟩ := Opn.open opn27 (hval 0 27 v0 rfl rfl) h0
  clear hA0 hval0
  refine (FlowSpread_walk a0 W).mono fun e W' he => ?_
  obtain ⟨rfl, bel⟩ := he.below
  exact ⟨_, rfl, _, _, _, [], _, [], hW', trodAll_mk1 (shut_bool Try.underlying4 _), (trodAll_cons_mk (Below.trod laidOut (by kernel_rfl) (of_decide_eq_true (by kernel_rfl)) k0 bel lt0) trodAll_mk0), rfl, bel.frame _, fun h => by cases h⟩

theorem claimFlowSpread : Rows.FlowSpreadSaid :=
  OpenClaim.holds_of_wide 8 Try.f8 rfl rfl rfl rfl rfl rfl rfl ⟨rfl, rfl, rfl, rfl, rfl⟩ rfl rfl rfl rfl rfl (by kernel_rfl) Try.func8 (by kernel_rfl)
    (of_decide_eq_true (by kernel_rfl)) (by unfold Func.isWrapper; first | (rw [if_pos (by decide +kernel)]; kernel_rfl) | (rw [if_neg (by decide +kernel)]; exact ⟨rfl, rfl⟩))
    (fun os started H enc _ => flowSpread_lifted os started H enc)
end Go.Proofs.Ytpdanbpipabboaa
