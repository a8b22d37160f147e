/- Of all keys: the part is what the chapter says. No conditions. -/
import Derived.Test.YtakmoeladkajdaaGreatM5
import Derived.Test.YtakmoeladkajdaaGreatHxG
set_option linter.unusedVariables false
set_option linter.unusedSimpArgs false
namespace Go.Proofs.YtakmoeladkajdaaGreat
open Go.ChangeShapes Go.WideShapes Go.ChangeAt Go.RowKit
open Go Go.Gx Go.Proofs.YtakmoeladkajdaaGreat.Tri Go.Proofs.YtakmoeladkajdaaGreat.Oc
theorem own : ownKnob Tryz.prog.godebug = none := by kernel_rfl
theorem laidOut : laidOutB Tryz.prog = true := by kernel_rfl
structure SLaw31Plan where
  old : SConf
  new : SConf
  stages : OV
def SLaw31Plan.to : (SConf × (SConf × OV)) → SLaw31Plan := fun x => ⟨x.1, x.2.1, x.2.2⟩
def SLaw31Plan.of : SLaw31Plan → (SConf × (SConf × OV)) := fun x => (x.old, x.new, x.stages)
def eLaw31Plan : Enc SLaw31Plan := isoE (prodE eConf (prodE eConf (ovE nilSl))) SLaw31Plan.to SLaw31Plan.of
def SLaw31Plan.l_old : Lens eLaw31Plan eConf 0 := lIso _ SLaw31Plan.to SLaw31Plan.of (fun _ => rfl) (lFst eConf (prodE eConf (ovE nilSl)))
@[simp] theorem SLaw31Plan.get_old (x : SLaw31Plan) : SLaw31Plan.l_old.get x = x.old := rfl
@[simp] theorem SLaw31Plan.set_old (x : SLaw31Plan) (y : SConf) : SLaw31Plan.l_old.set x y = { x with old := y } := rfl
def SLaw31Plan.l_new : Lens eLaw31Plan eConf 6 := lIso _ SLaw31Plan.to SLaw31Plan.of (fun _ => rfl) (Lens.comp (lSnd eConf (prodE eConf (ovE nilSl))) (lFst eConf (ovE nilSl)))
@[simp] theorem SLaw31Plan.get_new (x : SLaw31Plan) : SLaw31Plan.l_new.get x = x.new := rfl
@[simp] theorem SLaw31Plan.set_new (x : SLaw31Plan) (y : SConf) : SLaw31Plan.l_new.set x y = { x with new := y } := rfl
def SLaw31Plan.l_stages : Lens eLaw31Plan (ovE nilSl) 12 := lIso _ SLaw31Plan.to SLaw31Plan.of (fun _ => rfl) (Lens.comp (lSnd eConf (prodE eConf (ovE nilSl))) (Lens.comp (lSnd eConf (ovE nilSl)) (Lens.id (ovE nilSl))))
@[simp] theorem SLaw31Plan.get_stages (x : SLaw31Plan) : SLaw31Plan.l_stages.get x = x.stages := rfl
@[simp] theorem SLaw31Plan.set_stages (x : SLaw31Plan) (y : OV) : SLaw31Plan.l_stages.set x y = { x with stages := y } := rfl
def SAddr.ok : Kn SAddr := fun w x H d => ∃ ds, d = .agg ds ∧ (fun w x H ds => ∃ d r, ds = d :: r ∧ (fun _ _ _ _ => True) w x.1 H d ∧ (fun w a H ds => ∃ d, ds = [d] ∧ (fun w v H d => ∃ ds, d = .agg ds ∧ ∀ i (hi : i < 16) (h2 : i < ds.length), (fun _ _ _ _ => True) w v[i] H ds[i]) w a H d) w x.2 H r) w (SAddr.of x) H ds
theorem opn45 : Opn Tryz.prog 45 eAddr SAddr.ok := opn_struct Tryz.underlying45 (by kernel_rfl) (OpnF.cons rfl (opn_b Tryz.underlying4 (by kernel_rfl)) (OpnF.one rfl (opn_arr (opn_u8 Tryz.underlying5 (by kernel_rfl)) Tryz.underlying43 (by kernel_rfl)))) (fun _ => rfl)
def SKey.ok : Kn SKey := fun w x H d => ∃ ds, d = .agg ds ∧ (fun w x H ds => ∃ d r, ds = d :: r ∧ SAddr.ok w x.1 H d ∧ (fun w x H ds => ∃ d r, ds = d :: r ∧ SAddr.ok w x.1 H d ∧ (fun w x H ds => ∃ d r, ds = d :: r ∧ (fun _ _ _ _ => True) w x.1 H d ∧ (fun w x H ds => ∃ d r, ds = d :: r ∧ (fun _ _ _ _ => True) w x.1 H d ∧ (fun w a H ds => ∃ d, ds = [d] ∧ (fun _ _ _ _ => True) w a H d) w x.2 H r) w x.2 H r) w x.2 H r) w x.2 H r) w (SKey.of x) H ds
theorem opn48 : Opn Tryz.prog 48 eKey SKey.ok := opn_struct Tryz.underlying48 (by kernel_rfl) (OpnF.cons rfl opn45 (OpnF.cons rfl opn45 (OpnF.cons rfl (opn_u8 Tryz.underlying5 (by kernel_rfl)) (OpnF.cons rfl (opn_u16 Tryz.underlying46 (by kernel_rfl)) (OpnF.one rfl (opn_u16 Tryz.underlying46 (by kernel_rfl))))))) (fun _ => rfl)
set_option maxRecDepth 100000 in
theorem rollParts_contract (H : Type) (enc : TypeId × Value → H) (W : World) (base : Nat) (args : Array Value) (ds gs : List (DataW H)) (before : List MemPlace)
    (hval0 : ∀ (j : Nat) t v, Tryz.f4.params[j]? = some t → args[j]? = some v → Value.okWide Tryz.prog W .any base t v)
    (hW : DataW.Whole enc Tryz.prog Tryz.f4.params.toList Rows.rollPartsSpec.vars false W args.toList ds gs before) :
    Calls Tryz.prog 4 args W fun e W' => ∃ v, e = .returned v ∧ Rows.rollPartsSpec.post enc Tryz.prog Tryz.f4 false true false false W args v W' := by
  have hval : ∀ (j : Nat) t v, Tryz.f4.params[j]? = some t → args[j]? = some v → Value.okWide Tryz.prog W .any base t v := hval0
  have hW' := hW
  obtain ⟨p, q, hA0, hV, rfl, hfz, hnd⟩ := hW
  have hA : DataW.TrodAll enc Tryz.prog W 0 (fun _ => true) true Tryz.f4.params.toList args.toList ds p := hA0
  rw [Tryz.params4] at hA hval
  obtain ⟨v0, vs0, d0, ds0, p0, r0, hargs, rfl, rfl, h0, t0⟩ := trodAll_cons hA
  obtain ⟨rfl, rfl, rfl⟩ := trodAll_nil t0
  obtain rfl : args = #[v0] := by cases args; simp_all
  obtain ⟨rfl, rfl⟩ := trodVars_none hV
  have k0 := h0
  have lt0 : ∀ x ∈ p0, x.block < W.heap.size := by obtain ⟨m, hm⟩ := k0; exact DataW.trod_lt m _ _ _ hm
  obtain ⟨a0, rfl, q0⟩ := Opn.open opn48 (hval 0 48 v0 rfl rfl) h0
  clear hA0 hval0
  refine (RollParts_walk a0 W).mono fun e W' he => ?_
  obtain ⟨rfl, bel⟩ := he.below
  exact ⟨_, rfl, _, _, _, [], _, [], hW', trodAll_mk1 (shut_bool Tryz.underlying4 _), (trodAll_cons_mk (Below.trod laidOut (by kernel_rfl) (of_decide_eq_true (by kernel_rfl)) k0 bel lt0) trodAll_mk0), rfl, bel.frame _, fun h => by cases h⟩
set_option maxRecDepth 100000 in
theorem rollParts_lifted (os : Os) (started : os.Started) (H : Type) (enc : TypeId × Value → H) :
    ReturnsInHanded {} Tryz.checked os 4 .any (Rows.rollPartsSpec.pre6 enc Tryz.prog Tryz.f4 Rows.rollPartsRow.domain false) (Rows.rollPartsSpec.post enc Tryz.prog Tryz.f4 false true false false) := by
  refine returnsInHanded_of_change (C := Tryz.checked) own started (by kernel_rfl) Tryz.func4
    (ChangeSpec.witness6 (enc := enc) (C := Tryz.checked) false ⟨#[], #[eKey.val eKey.zero], []⟩ 8 (by kernel_rfl) (by kernel_rfl) (by kernel_rfl) (by kernel_rfl)) ?_
  intro W base args ds gs before hval hW _ _
  exact rollParts_contract H enc W base args ds gs before hval hW
theorem claimRollParts : Rows.RollPartsSaid :=
  OpenClaim.holds_of_wide 4 Tryz.f4 rfl rfl rfl rfl rfl rfl rfl ⟨rfl, rfl, rfl, rfl, rfl⟩ rfl rfl rfl rfl rfl (by kernel_rfl) Tryz.func4 (by kernel_rfl)
    (of_decide_eq_true (by kernel_rfl)) (by unfold Func.isWrapper; first | (rw [if_pos (by decide +kernel)]; kernel_rfl) | (rw [if_neg (by decide +kernel)]; exact ⟨rfl, rfl⟩))
    (fun os started H enc _ => rollParts_lifted os started H enc)
end Go.Proofs.YtakmoeladkajdaaGreat
