/- Of all headers: one bit turned is told. No conditions. -/
import Derived.Test.YtegcihhhighipaaP34
import Derived.Test.YtegcihhhighipaaGxG
set_option linter.unusedVariables false
set_option linter.unusedSimpArgs false
namespace Go.Proofs.Ytegcihhhighipaa
open Go.ChangeShapes Go.WideShapes Go.ChangeAt Go.RowKit
open Go Go.Gx
theorem own : ownKnob Try.prog.godebug = none := by kernel_rfl
theorem laidOut : laidOutB Try.prog = true := by kernel_rfl

def SAddr.ok : Kn SAddr := fun w x H d => ∃ ds, d = .agg ds ∧ (fun w x H ds => ∃ d r, ds = d :: r ∧ (fun _ _ _ _ => True) w x.1 H d ∧ (fun w a H ds => ∃ d, ds = [d] ∧ (fun w v H d => ∃ ds, d = .agg ds ∧ ∀ i (hi : i < 16) (h2 : i < ds.length), (fun _ _ _ _ => True) w v[i] H ds[i]) w a H d) w x.2 H r) w (SAddr.of x) H ds

theorem opn24 : Opn Try.prog 24 eAddr SAddr.ok := opn_struct Try.underlying24 (by kernel_rfl) (OpnF.cons rfl (opn_b Try.underlying4 (by kernel_rfl)) (OpnF.one rfl (opn_arr (opn_u8 Try.underlying5 (by kernel_rfl)) Try.underlying22 (by kernel_rfl)))) (fun _ => rfl)

def SHeader.ok : Kn SHeader := fun w x H d => ∃ ds, d = .agg ds ∧ (fun w x H ds => ∃ d r, ds = d :: r ∧ SAddr.ok w x.1 H d ∧ (fun w x H ds => ∃ d r, ds = d :: r ∧ SAddr.ok w x.1 H d ∧ (fun w x H ds => ∃ d r, ds = d :: r ∧ (fun _ _ _ _ => True) w x.1 H d ∧ (fun w x H ds => ∃ d r, ds = d :: r ∧ (fun _ _ _ _ => True) w x.1 H d ∧ (fun w x H ds => ∃ d r, ds = d :: r ∧ (fun _ _ _ _ => True) w x.1 H d ∧ (fun w x H ds => ∃ d r, ds = d :: r ∧ (fun _ _ _ _ => True) w x.1 H d ∧ (fun w x H ds => ∃ d r, ds = d :: r ∧ (fun _ _ _ _ => True) w x.1 H d ∧ (fun w x H ds => ∃ d r, ds = d :: r ∧ (fun _ _ _ _ => True) w x.1 H d ∧ (fun w x H ds => ∃ d r, ds = d :: r ∧ (fun _ _ _ _ => True) w x.1 H d ∧ (fun w x H ds => ∃ d r, ds = d :: r ∧ (fun _ _ _ _ => True) w x.1 H d ∧ (fun w a H ds => ∃ d, ds = [d] ∧ (SlQ u8E (fun _ _ _ _ => True)) w a H d) w x.2 H r) w x.2 H r) w x.2 H r) w x.2 H r) w x.2 H r) w x.2 H r) w x.2 H r) w x.2 H r) w x.2 H r) w x.2 H r) w (SHeader.of x) H ds

theorem opn29 : Opn Try.prog 29 eHeader SHeader.ok := opn_struct Try.underlying29 (by kernel_rfl) (OpnF.cons rfl opn24 (OpnF.cons rfl opn24 (OpnF.cons rfl (opn_u8 Try.underlying5 (by kernel_rfl)) (OpnF.cons rfl (opn_u16 Try.underlying25 (by kernel_rfl)) (OpnF.cons rfl (opn_u16 Try.underlying25 (by kernel_rfl)) (OpnF.cons rfl (opn_u8 Try.underlying5 (by kernel_rfl)) (OpnF.cons rfl (opn_u8 Try.underlying5 (by kernel_rfl)) (OpnF.cons rfl (opn_u32 Try.underlying26 (by kernel_rfl)) (OpnF.cons rfl (opn_u8 Try.underlying5 (by kernel_rfl)) (OpnF.cons rfl (opn_u32 Try.underlying26 (by kernel_rfl)) (OpnF.one rfl (opn_sl (opn_u8 Try.underlying5 (by kernel_rfl)) Try.underlying27 (by kernel_rfl) rfl)))))))))))) (fun _ => rfl)

theorem header_sized {w : World} {h : SHeader} {H : Type} {d : DataW H} {ts : List TypeId} {ds : List (DataW H)} (hq : SHeader.ok w h H d) (hz : (DataW.weightsEach Try.prog ts ds).all (· ≤ reachBytes) = true) {j : Nat} (ht : ts[j]? = some 29) (hd : ds[j]? = some d) :
    ∃ xs, IsSl u8E w h.data.v xs ∧ xs.length * 1 ≤ 140737488351232 := by
  obtain ⟨ds0, rfl, d1, r1, rfl, _, d2, r2, rfl, _, d3, r3, rfl, _, d4, r4, rfl, _, d5, r5, rfl, _, d6, r6, rfl, _, d7, r7, rfl, _, d8, r8, rfl, _, d9, r9, rfl, _, d10, r10, rfl, _, d11, rfl, hq⟩ := hq
  have hz2 := sized_agg hz ht hd Try.underlying29
  exact SlQ.sized hq hz2 (j := 10) (by kernel_rfl) rfl Try.underlying27 (by kernel_rfl : Try.prog.bytesOf 5 = 1)

theorem header_data {w : World} {h : SHeader} {H : Type} {d : DataW H} (hq : SHeader.ok w h H d) : ∃ xs, IsSl u8E w h.data.v xs := by
  obtain ⟨ds0, rfl, d1, r1, rfl, _, d2, r2, rfl, _, d3, r3, rfl, _, d4, r4, rfl, _, d5, r5, rfl, _, d6, r6, rfl, _, d7, r7, rfl, _, d8, r8, rfl, _, d9, r9, rfl, _, d10, r10, rfl, _, d11, rfl, hq⟩ := hq
  obtain ⟨xs, es, hx, _⟩ := hq
  exact ⟨xs, hx⟩

set_option maxRecDepth 100000 in
theorem packetBits_contract (H : Type) (enc : TypeId × Value → H) (W : World) (base : Nat) (args : Array Value) (ds gs : List (DataW H)) (before : List MemPlace)
    (hval0 : ∀ (j : Nat) t v, Try.f6.params[j]? = some t → args[j]? = some v → Value.okWide Try.prog W .any base t v)
    (hW : DataW.Whole enc Try.prog Try.f6.params.toList Rows.packetBitsSpec.vars false W args.toList ds gs before) :
    Calls Try.prog 6 args W fun e W' => ∃ v, e = .returned v ∧ Rows.packetBitsSpec.post enc Try.prog Try.f6 false true false false W args v W' := by
  have hval : ∀ (j : Nat) t v, Try.f6.params[j]? = some t → args[j]? = some v → Value.okWide Try.prog W .any base t v := hval0
  have hW' := hW
  obtain ⟨p, q, hA0, hV, rfl, hfz, hnd⟩ := hW
  have hA : DataW.TrodAll enc Try.prog W 0 (fun _ => true) true Try.f6.params.toList args.toList ds p := hA0
  rw [Try.params6] at hA hval
  obtain ⟨v0, vs0, d0, ds0, p0, r0, hargs, rfl, rfl, h0, t0⟩ := trodAll_cons hA
  obtain ⟨rfl, rfl, rfl⟩ := trodAll_nil t0
  obtain rfl : args = #[v0] := by cases args; simp_all
  obtain ⟨rfl, rfl⟩ := trodVars_none hV
  have k0 := h0
  have lt0 : ∀ x ∈ p0, x.block < W.heap.size := by obtain ⟨m, hm⟩ := k0; exact DataW.trod_lt m _ _ _ hm
  obtain ⟨a0, rfl, q0⟩ := Opn.open opn29 (hval 0 29 v0 rfl rfl) h0
  clear hA0 hval0
  obtain ⟨xs0, hx0⟩ := header_data q0
  refine (PacketBits_walk a0 xs0 W hx0).mono fun e W' he => ?_
  obtain ⟨rfl, bel⟩ := he.below
  exact ⟨_, rfl, _, _, _, [], _, [], hW', trodAll_mk1 (shut_bool Try.underlying4 _), (trodAll_cons_mk (Below.trod laidOut (by kernel_rfl) (of_decide_eq_true (by kernel_rfl)) k0 bel lt0) trodAll_mk0), rfl, bel.frame _, fun h => by cases h⟩

set_option maxRecDepth 100000 in
theorem packetBits_lifted (os : Os) (started : os.Started) (H : Type) (enc : TypeId × Value → H) :
    ReturnsInHanded {} Try.checked os 6 .any (Rows.packetBitsSpec.pre6 enc Try.prog Try.f6 Rows.packetBitsRow.domain false) (Rows.packetBitsSpec.post enc Try.prog Try.f6 false true false false) := by
  refine returnsInHanded_of_change (C := Try.checked) own started (by kernel_rfl) Try.func6
    (ChangeSpec.witness6 (enc := enc) (C := Try.checked) false ⟨#[], #[eHeader.val eHeader.zero], []⟩ 8 (by kernel_rfl) (by kernel_rfl) (by kernel_rfl) (by kernel_rfl)) ?_
  intro W base args ds gs before hval hW _ _
  exact packetBits_contract H enc W base args ds gs before hval hW

theorem claimPacketBits : Rows.PacketBitsSaid :=
  OpenClaim.holds_of_wide 6 Try.f6 rfl rfl rfl rfl rfl rfl rfl ⟨rfl, rfl, rfl, rfl, rfl⟩ rfl rfl rfl rfl rfl (by kernel_rfl) Try.func6 (by kernel_rfl)
    (of_decide_eq_true (by kernel_rfl)) (by unfold Func.isWrapper; first | (rw [if_pos (by decide +kernel)]; kernel_rfl) | (rw [if_neg (by decide +kernel)]; exact ⟨rfl, rfl⟩))
    (fun os started H enc _ => packetBits_lifted os started H enc)
end Go.Proofs.Ytegcihhhighipaa
