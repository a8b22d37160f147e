/- Of any routes and steps: each answer is the document's; all that were stay. No conditions. -/
import Derived.Test.YtjjlofjpdklbgaaT42
import Derived.Test.YtjjlofjpdklbgaaGxG
set_option linter.unusedVariables false
set_option linter.unusedSimpArgs false
namespace Go.Proofs.Ytjjlofjpdklbgaa
open Go.ChangeShapes Go.WideShapes Go.ChangeAt Go.RowKit
open Go Go.Gx
theorem own : ownKnob Try.prog.godebug = none := by kernel_rfl
theorem laidOut : laidOutB Try.prog = true := by kernel_rfl

def SAddr.ok : Kn SAddr := fun w x H d => ∃ ds, d = .agg ds ∧ (fun w x H ds => ∃ d r, ds = d :: r ∧ (fun _ _ _ _ => True) w x.1 H d ∧ (fun w a H ds => ∃ d, ds = [d] ∧ (fun w v H d => ∃ ds, d = .agg ds ∧ ∀ i (hi : i < 16) (h2 : i < ds.length), (fun _ _ _ _ => True) w v[i] H ds[i]) w a H d) w x.2 H r) w (SAddr.of x) H ds

theorem opn31 : Opn Try.prog 31 eAddr SAddr.ok := opn_struct Try.underlying31 (by kernel_rfl) (OpnF.cons rfl (opn_b Try.underlying4 (by kernel_rfl)) (OpnF.one rfl (opn_arr (opn_u8 Try.underlying5 (by kernel_rfl)) Try.underlying29 (by kernel_rfl)))) (fun _ => rfl)

def SPrefix.ok : Kn SPrefix := fun w x H d => ∃ ds, d = .agg ds ∧ (fun w x H ds => ∃ d r, ds = d :: r ∧ SAddr.ok w x.1 H d ∧ (fun w a H ds => ∃ d, ds = [d] ∧ (fun _ n _ _ => Fit n) w a H d) w x.2 H r) w (SPrefix.of x) H ds

theorem opn36 : Opn Try.prog 36 ePrefix SPrefix.ok := opn_struct Try.underlying36 (by kernel_rfl) (OpnF.cons rfl opn31 (OpnF.one rfl (opn_i Try.underlying3 (by kernel_rfl)))) (fun _ => rfl)

def SRoute.ok : Kn SRoute := fun w x H d => ∃ ds, d = .agg ds ∧ (fun w x H ds => ∃ d r, ds = d :: r ∧ SPrefix.ok w x.1 H d ∧ (fun w a H ds => ∃ d, ds = [d] ∧ (fun _ n _ _ => Fit n) w a H d) w x.2 H r) w (SRoute.of x) H ds

theorem opn38 : Opn Try.prog 38 eRoute SRoute.ok := opn_struct Try.underlying38 (by kernel_rfl) (OpnF.cons rfl opn36 (OpnF.one rfl (opn_i Try.underlying3 (by kernel_rfl)))) (fun _ => rfl)

def SLaw18Do.ok : Kn SLaw18Do := fun w x H d => ∃ ds, d = .agg ds ∧ (fun w x H ds => ∃ d r, ds = d :: r ∧ (fun _ n _ _ => Fit n) w x.1 H d ∧ (fun w x H ds => ∃ d r, ds = d :: r ∧ SPrefix.ok w x.1 H d ∧ (fun w x H ds => ∃ d r, ds = d :: r ∧ (fun _ n _ _ => Fit n) w x.1 H d ∧ (fun w a H ds => ∃ d, ds = [d] ∧ SAddr.ok w a H d) w x.2 H r) w x.2 H r) w x.2 H r) w (SLaw18Do.of x) H ds

theorem opn70 : Opn Try.prog 70 eLaw18Do SLaw18Do.ok := opn_struct Try.underlying70 (by kernel_rfl) (OpnF.cons rfl (opn_i Try.underlying3 (by kernel_rfl)) (OpnF.cons rfl opn36 (OpnF.cons rfl (opn_i Try.underlying3 (by kernel_rfl)) (OpnF.one rfl opn31)))) (fun _ => rfl)

set_option maxRecDepth 100000 in
theorem triePlays_contract (H : Type) (enc : TypeId × Value → H) (W : World) (base : Nat) (args : Array Value) (ds gs : List (DataW H)) (before : List MemPlace)
    (hval0 : ∀ (j : Nat) t v, Try.f5.params[j]? = some t → args[j]? = some v → Value.okWide Try.prog W .any base t v)
    (hW : DataW.Whole enc Try.prog Try.f5.params.toList Rows.triePlaysSpec.vars false W args.toList ds gs before) :
    Calls Try.prog 5 args W fun e W' => ∃ v, e = .returned v ∧ Rows.triePlaysSpec.post enc Try.prog Try.f5 false true false false W args v W' := by
  have hval : ∀ (j : Nat) t v, Try.f5.params[j]? = some t → args[j]? = some v → Value.okWide Try.prog W .any base t v := hval0
  have hW' := hW
  obtain ⟨p, q, hA0, hV, rfl, hfz, hnd⟩ := hW
  have hA : DataW.TrodAll enc Try.prog W 0 (fun _ => true) true Try.f5.params.toList args.toList ds p := hA0
  rw [Try.params5] at hA hval
  obtain ⟨v0, vs0, d0, ds0, p0, r0, hargs, rfl, rfl, h0, t0⟩ := trodAll_cons hA
  obtain ⟨v1, vs1, d1, ds1, p1, r1, rfl, rfl, rfl, h1, t1⟩ := trodAll_cons t0
  obtain ⟨rfl, rfl, rfl⟩ := trodAll_nil t1
  obtain rfl : args = #[v0, v1] := by cases args; simp_all
  obtain ⟨rfl, rfl⟩ := trodVars_none hV
  have k0 := h0
  have lt0 : ∀ x ∈ p0, x.block < W.heap.size := by obtain ⟨m, hm⟩ := k0; exact DataW.trod_lt m _ _ _ hm
  obtain ⟨a0, rfl, q0⟩ := Opn.open (opn_sl opn38 Try.underlying22 (by kernel_rfl) rfl) (hval 0 22 v0 rfl rfl) h0
  have k1 := h1
  have lt1 : ∀ x ∈ p1, x.block < W.heap.size := by obtain ⟨m, hm⟩ := k1; exact DataW.trod_lt m _ _ _ hm
  obtain ⟨a1, rfl, q1⟩ := Opn.open (opn_sl opn70 Try.underlying62 (by kernel_rfl) rfl) (hval 1 62 v1 rfl rfl) h1
  clear hA0 hval0
  obtain ⟨xs0, es0, hx0, hd0, hl0, hq0⟩ := q0
  obtain ⟨xs1, es1, hx1, hd1, hl1, hq1⟩ := q1
  refine (TriePlays_walk a0.v a1.v xs0 xs1 W hx0 hx1).mono fun e W' he => ?_
  obtain ⟨rfl, bel⟩ := he.below
  exact ⟨_, rfl, _, _, _, [], _, [], hW', trodAll_mk1 (shut_bool Try.underlying4 _), (trodAll_cons_mk (Below.trod laidOut (by kernel_rfl) (of_decide_eq_true (by kernel_rfl)) k0 bel lt0) (trodAll_cons_mk (Below.trod laidOut (by kernel_rfl) (of_decide_eq_true (by kernel_rfl)) k1 bel lt1) trodAll_mk0)), rfl, bel.frame _, fun h => by cases h⟩

set_option maxRecDepth 100000 in
theorem triePlays_lifted (os : Os) (started : os.Started) (H : Type) (enc : TypeId × Value → H) :
    ReturnsInHanded {} Try.checked os 5 .any (Rows.triePlaysSpec.pre6 enc Try.prog Try.f5 Rows.triePlaysRow.domain false) (Rows.triePlaysSpec.post enc Try.prog Try.f5 false true false false) := by
  refine returnsInHanded_of_change (C := Try.checked) own started (by kernel_rfl) Try.func5
    (ChangeSpec.witness6 (enc := enc) (C := Try.checked) false ⟨#[], #[(ovE nilSl).val (ovE nilSl).zero, (ovE nilSl).val (ovE nilSl).zero], []⟩ 8 (by kernel_rfl) (by kernel_rfl) (by kernel_rfl) (by kernel_rfl)) ?_
  intro W base args ds gs before hval hW _ _
  exact triePlays_contract H enc W base args ds gs before hval hW

theorem claimTriePlays : Rows.TriePlaysSaid :=
  OpenClaim.holds_of_wide 5 Try.f5 rfl rfl rfl rfl rfl rfl rfl ⟨rfl, rfl, rfl, rfl, rfl⟩ rfl rfl rfl rfl rfl (by kernel_rfl) Try.func5 (by kernel_rfl)
    (of_decide_eq_true (by kernel_rfl)) (by unfold Func.isWrapper; first | (rw [if_pos (by decide +kernel)]; kernel_rfl) | (rw [if_neg (by decide +kernel)]; exact ⟨rfl, rfl⟩))
    (fun os started H enc _ => triePlays_lifted os started H enc)
end Go.Proofs.Ytjjlofjpdklbgaa
