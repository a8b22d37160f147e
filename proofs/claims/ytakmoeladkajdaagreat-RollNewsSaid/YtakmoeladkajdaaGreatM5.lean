/- Part. -/
import Derived.Test.YtakmoeladkajdaaGreatM4
set_option linter.unusedVariables false
set_option linter.unusedSimpArgs false
set_option linter.unusedSectionVars false
namespace Go.Proofs.YtakmoeladkajdaaGreat
open Go Go.Gx Go.Proofs.YtakmoeladkajdaaGreat.Tri Go.Proofs.YtakmoeladkajdaaGreat.Oc
theorem neq_none {P : Program} {K : Ctx} {F : Fr} {L : List Res} {g : Bool} {x : Operand} {t t' ty : TypeId} {ms : _} (ht : P.underlying t = some (.interface ms)) (hx : Opd F g x .nilIface) : Ev P K F L g (.binOp .neq t x (.const .nilIface) t') ty (.bool false) :=
  Ev.bin hx (.c (v := .nilIface) rfl) (fun w => by unfold eqGuard; simp) (fun w => by
    have e : Op.maxDepth = (Op.maxDepth - 1) + 1 := by decide
    simp only [binOp, Op.equal]
    rw [e]
    simp [Op.equalIn, run_underlying ht, Result.andThen])
set_option maxRecDepth 8000 in
theorem step_nil (o : UInt8) (w : World) : Calls Tryz.prog 32 #[nilIf.v, U8 o] w (RetV w (.tuple #[])) := by
  refine en0 10 Tryz.func32 ?_
  refine sg (mv rfl (co (neq_none Tryz.underlying90 (.t rfl)) ?_))
  refine nP (condF rfl (rfl) ?_)
  refine skip (done' rfl .nil (retE ?_))
  rfl
end Go.Proofs.YtakmoeladkajdaaGreat
namespace Go.Proofs.YtakmoeladkajdaaGreat
open Go Go.Gx Go.Proofs.YtakmoeladkajdaaGreat.Tri Go.Proofs.YtakmoeladkajdaaGreat.Oc
structure SRollRoll where
  old : OV
  new : OV
  stages : OV
  state : SAtomicUint64
def SRollRoll.to : (OV × (OV × (OV × SAtomicUint64))) → SRollRoll := fun x => ⟨x.1, x.2.1, x.2.2.1, x.2.2.2⟩
def SRollRoll.of : SRollRoll → (OV × (OV × (OV × SAtomicUint64))) := fun x => (x.old, x.new, x.stages, x.state)
def eRollRoll : Enc SRollRoll := isoE (prodE (ovE nilPtr) (prodE (ovE nilPtr) (prodE (ovE nilSl) eAtomicUint64))) SRollRoll.to SRollRoll.of
def SRollRoll.l_old : Lens eRollRoll (ovE nilPtr) 0 := lIso _ SRollRoll.to SRollRoll.of (fun _ => rfl) (lFst (ovE nilPtr) (prodE (ovE nilPtr) (prodE (ovE nilSl) eAtomicUint64)))
@[simp] theorem SRollRoll.get_old (x : SRollRoll) : SRollRoll.l_old.get x = x.old := rfl
@[simp] theorem SRollRoll.set_old (x : SRollRoll) (y : OV) : SRollRoll.l_old.set x y = { x with old := y } := rfl
def SRollRoll.l_new : Lens eRollRoll (ovE nilPtr) 1 := lIso _ SRollRoll.to SRollRoll.of (fun _ => rfl) (Lens.comp (lSnd (ovE nilPtr) (prodE (ovE nilPtr) (prodE (ovE nilSl) eAtomicUint64))) (lFst (ovE nilPtr) (prodE (ovE nilSl) eAtomicUint64)))
@[simp] theorem SRollRoll.get_new (x : SRollRoll) : SRollRoll.l_new.get x = x.new := rfl
@[simp] theorem SRollRoll.set_new (x : SRollRoll) (y : OV) : SRollRoll.l_new.set x y = { x with new := y } := rfl
def SRollRoll.l_stages : Lens eRollRoll (ovE nilSl) 2 := lIso _ SRollRoll.to SRollRoll.of (fun _ => rfl) (Lens.comp (lSnd (ovE nilPtr) (prodE (ovE nilPtr) (prodE (ovE nilSl) eAtomicUint64))) (Lens.comp (lSnd (ovE nilPtr) (prodE (ovE nilSl) eAtomicUint64)) (lFst (ovE nilSl) eAtomicUint64)))
@[simp] theorem SRollRoll.get_stages (x : SRollRoll) : SRollRoll.l_stages.get x = x.stages := rfl
@[simp] theorem SRollRoll.set_stages (x : SRollRoll) (y : OV) : SRollRoll.l_stages.set x y = { x with stages := y } := rfl
def SRollRoll.l_state : Lens eRollRoll eAtomicUint64 3 := lIso _ SRollRoll.to SRollRoll.of (fun _ => rfl) (Lens.comp (lSnd (ovE nilPtr) (prodE (ovE nilPtr) (prodE (ovE nilSl) eAtomicUint64))) (Lens.comp (lSnd (ovE nilPtr) (prodE (ovE nilSl) eAtomicUint64)) (Lens.comp (lSnd (ovE nilSl) eAtomicUint64) (Lens.id eAtomicUint64))))
@[simp] theorem SRollRoll.get_state (x : SRollRoll) : SRollRoll.l_state.get x = x.state := rfl
@[simp] theorem SRollRoll.set_state (x : SRollRoll) (y : SAtomicUint64) : SRollRoll.l_state.set x y = { x with state := y } := rfl
theorem ty51 : TyOK Tryz.prog 51 (ovE nilPtr) := TyOK.mk' zk zk
set_option maxRecDepth 8000 in
theorem rthere_ok (b nb : Nat) (x : SRollRoll) (w : World) (hb : PtsTo eRollRoll w b 0 x) (hn : x.new = ptrV nb) : Calls Tryz.prog 28 #[.pointer (some ⟨b, 0, none⟩)] w (RetV w (.bool true)) := by
  refine en0 12 Tryz.func28 ?_
  refine sg (co (Ev.assign (.c (v := .bool false) rfl)) ?_)
  refine nP (sg (mv rfl (co (Ev.neq_p Tryz.underlying38 (.t rfl) (.c rfl)) ?_)))
  refine mv rfl (cg rfl rfl (Ev.move (.t rfl)) ?_)
  refine cg rfl rfl (Ev.nilCheck (.g rfl id)) ?_
  refine cg rfl rfl (fA 1 (.g rfl id)) ?_
  refine cg rfl rfl (Ev.to (v' := .pointer (some ⟨nb, 0, none⟩)) (Ev.load ty51 (.g rfl id) (ptsL (fun w I => hb.keep I.keeps) SRollRoll.l_new)) (congrArg OV.v hn)) ?_
  refine cg rfl rfl (Ev.neq_p Tryz.underlying51 (.g rfl id) (.c rfl)) ?_
  refine co (Ev.pkA (.t rfl) rfl) ?_
  refine asn rfl (nP (ret (done rfl (.tmp rfl .nil) (retE ?_))))
  first | rfl | (simp; done)
end Go.Proofs.YtakmoeladkajdaaGreat
namespace Go.Proofs.YtakmoeladkajdaaGreat
open Go Go.Gx Go.Proofs.YtakmoeladkajdaaGreat.Tri Go.Proofs.YtakmoeladkajdaaGreat.Oc
theorem and_small (n : UInt64) : (n &&& 255).toNat < 9223372036854775808 := by
  rw [UInt64.toNat_and]
  exact Nat.lt_of_le_of_lt Nat.and_le_right (by decide)
theorem en28 : Gx.Enters Tryz.prog 28 := Gx.Enters.mk' zk
theorem en32 : Gx.Enters Tryz.prog 32 := Gx.Enters.mk' zk
theorem en33 : Gx.Enters Tryz.prog 33 := Gx.Enters.mk' zk
theorem en34 : Gx.Enters Tryz.prog 34 := Gx.Enters.mk' zk
set_option maxRecDepth 8000 in
theorem stage_ok (b nb : Nat) (x : SRollRoll) (w : World) (hb : PtsTo eRollRoll w b 0 x) (hn : x.new = ptrV nb) : Calls Tryz.prog 14 #[.pointer (some ⟨b, 0, none⟩), nilIf.v] w (RetV w (.tuple #[I ((splitS x.state.v).stage.toNat : Int), U64 (splitS x.state.v).seen, U64 (splitS x.state.v).dropped, I 0])) := by
  refine en0 26 Tryz.func14 ?_
  refine sg (co (Ev.assign (.c (v := I 0) rfl)) ?_)
  refine co (Ev.assign (.c (v := U64 0) rfl)) ?_
  refine co (Ev.assign (.c (v := U64 0) rfl)) ?_
  refine co (Ev.assign (.c (v := I 0) rfl)) ?_
  refine nP (seq (sg (mv rfl (cons (callv en28 (.cons (.t rfl) .nil) (fun w I => rthere_ok b nb x w (hb.keep I.keeps) hn) ?_)))))
  refine co (Ev.not (.t rfl)) ?_
  refine nP (condF rfl (rfl) ?_)
  refine skip (pN (sg (mv rfl (cons (callv en32 (.cons (.t rfl) (.cons (.c (v := U8 1) rfl) .nil)) (fun w I => step_nil _ w) ?_)))))
  refine nP (sg (mv rfl (co (Ev.nilCheck (.t rfl)) ?_)))
  refine co (fA 3 (.t rfl)) ?_
  refine cons (callv en33 (.cons (.t rfl) .nil) (fun w I => load64_ok b _ _ w (ptsL (fun w I => hb.keep I.keeps) (Lens.comp SRollRoll.l_state SAtomicUint64.l_v) w I)) ?_)
  refine cons (callv en34 (.cons (.t rfl) .nil) (fun w I => split_ok _ w) ?_)
  refine cons (alloc z102 (fun b1 => ?_))
  refine cons (stv ty102 (Lens.id _) (.t rfl) (.t rfl) ?_)
  refine nP (seq (draw' zk ?_))
  refine tk 0 rfl (fA 1 (.t rfl)) ?_
  refine tk 1 rfl (Ev.ldv ty35 (.t rfl) SRollState.l_stage) ?_
  refine tk 2 rfl (Ev.conv_u64_i Tryz.underlying3 Tryz.underlying35 (.t rfl) (fun _ => and_small _)) ?_
  refine tk 3 rfl (fA 2 (.t rfl)) ?_
  refine tk 4 rfl (Ev.ldv ty35 (.t rfl) SRollState.l_seen) ?_
  refine tk 5 rfl (fA 3 (.t rfl)) ?_
  refine tk 6 rfl (Ev.ldv ty35 (.t rfl) SRollState.l_dropped) ?_
  refine tk 7 rfl (Ev.assign (.t rfl)) ?_
  refine tk 8 rfl (Ev.assign (.t rfl)) ?_
  refine tk 9 rfl (Ev.assign (.t rfl)) ?_
  refine tk 10 rfl (Ev.assign (.c (v := I 0) rfl)) ?_
  refine ovr (pN (ret (done rfl (.tmp rfl (.tmp rfl (.tmp rfl (.tmp rfl .nil)))) (retE ?_))))
  rfl
set_option maxRecDepth 8000 in
theorem over_ok (b nb : Nat) (x : SRollRoll) (w : World) (hb : PtsTo eRollRoll w b 0 x) (hn : x.new = ptrV nb) : Calls Tryz.prog 15 #[.pointer (some ⟨b, 0, none⟩), nilIf.v] w (RetV w (.tuple #[.bool (decide (¬ (splitS x.state.v).end_ = 0)), .bool (decide ((splitS x.state.v).end_ = 1)), I 0])) := by
  refine en0 24 Tryz.func15 ?_
  refine sg (co (Ev.assign (.c (v := .bool false) rfl)) ?_)
  refine co (Ev.assign (.c (v := .bool false) rfl)) ?_
  refine co (Ev.assign (.c (v := I 0) rfl)) ?_
  refine nP (seq (sg (mv rfl (cons (callv en28 (.cons (.t rfl) .nil) (fun w I => rthere_ok b nb x w (hb.keep I.keeps) hn) ?_)))))
  refine co (Ev.not (.t rfl)) ?_
  refine nP (condF rfl (rfl) ?_)
  refine skip (pN (sg (mv rfl (cons (callv en32 (.cons (.t rfl) (.cons (.c (v := U8 1) rfl) .nil)) (fun w I => step_nil _ w) ?_)))))
  refine nP (sg (mv rfl (co (Ev.nilCheck (.t rfl)) ?_)))
  refine co (fA 3 (.t rfl)) ?_
  refine cons (callv en33 (.cons (.t rfl) .nil) (fun w I => load64_ok b _ _ w (ptsL (fun w I => hb.keep I.keeps) (Lens.comp SRollRoll.l_state SAtomicUint64.l_v) w I)) ?_)
  refine cons (callv en34 (.cons (.t rfl) .nil) (fun w I => split_ok _ w) ?_)
  refine cons (alloc z102 (fun b1 => ?_))
  refine cons (stv ty102 (Lens.id _) (.t rfl) (.t rfl) ?_)
  refine nP (seq (draw' zk ?_))
  refine tk 0 rfl (fA 0 (.t rfl)) ?_
  refine tk 1 rfl (Ev.ldv ty35 (.t rfl) SRollState.l_end_) ?_
  refine tk 2 rfl (Ev.neq_u64 (.t rfl) (.c (v := U64 0) rfl)) ?_
  refine tk 3 rfl (fA 0 (.t rfl)) ?_
  refine tk 4 rfl (Ev.ldv ty35 (.t rfl) SRollState.l_end_) ?_
  refine tk 5 rfl (Ev.eql_u64 (.t rfl) (.c (v := U64 1) rfl)) ?_
  refine tk 6 rfl (Ev.assign (.t rfl)) ?_
  refine tk 7 rfl (Ev.assign (.t rfl)) ?_
  refine tk 8 rfl (Ev.assign (.c (v := I 0) rfl)) ?_
  refine ovr (pN (ret (done rfl (.tmp rfl (.tmp rfl (.tmp rfl .nil))) (retE ?_))))
  rfl
end Go.Proofs.YtakmoeladkajdaaGreat
namespace Go.Proofs.YtakmoeladkajdaaGreat
open Go Go.Gx Go.Proofs.YtakmoeladkajdaaGreat.Tri Go.Proofs.YtakmoeladkajdaaGreat.Oc
def nextS (ss : List SStage) (s : SRollState) (dr : Bool) : SRollState :=
  let d2 := if dr = true then s.dropped + 1 else s.dropped
  if (ss.getD s.stage.toNat eStage.zero).most < d2 then ⟨2, s.stage, s.seen + 1, d2⟩
  else if s.seen + 1 < (ss.getD s.stage.toNat eStage.zero).wait then ⟨s.end_, s.stage, s.seen + 1, d2⟩
  else if (s.stage.toNat : Int) = (ss.length : Int) - 1 then ⟨1, s.stage, s.seen + 1, d2⟩
  else ⟨0, s.stage + 1, 0, 0⟩
theorem indexAddrU {α : Type} {P : Program} {K : Ctx} {F : Fr} {L : List Res} {g : Bool} {x y : Operand} {t ty : TypeId} {E : Enc α} {v : Value} {xs : List α} {e : TypeId} {n : UInt64} (ht : P.underlying t = some (.slice e)) (T : TyOK P e E) (hx : Opd F g x v) (hy : Opd F g y (U64 n))
    (h : ∀ w, WInv K L w → IsSl E w v xs) (hi : n.toNat < xs.length) :
    Ev P K F L g (.indexAddr t x y) ty (elemPtr v (((n.toNat : Int)).toNat * E.size)) := fun hg a G w hw dst pos af gd => by
  obtain ⟨b, cap, rfl, h1, _, h2, h3⟩ := h w hw
  have hi' : 0 ≤ (n.toNat : Int) ∧ (n.toNat : Int) < xs.length := by omega
  have hu : (underlying t).run P w = .ok (.slice e) w := by simp [underlying, ht]
  cases b with
  | none =>
    have := (h2 rfl).1
    subst this
    simp at hi
  | some p =>
    have hp := (h3 p rfl).1 (fun e => by rw [e] at hi; simp at hi)
    obtain ⟨pb, po, ps⟩ := p
    simp only at hp
    subst hp
    simp [execOp, Instr.indexAt, asIntOf, hx.eval hg G, hy.eval hg G, U64, hu, hi, hi', Gx.run_sizeOf T, elemPtr, addr_add]
theorem ty29 : TyOK Tryz.prog 29 (ovE nilSl) := TyOK.mk' zk zk
set_option maxRecDepth 8000 in
theorem counted_ok (b : Nat) (x : SRollRoll) (ss : List SStage) (s : SRollState) (dr : Bool) (w : World) (hb : PtsTo eRollRoll w b 0 x) (hs : IsSl eStage w x.stages.v ss) (hi : s.stage.toNat < ss.length) (hl : ss.length ≤ 256) : Calls Tryz.prog 35 #[.pointer (some ⟨b, 0, none⟩), eRollState.val s, .bool dr] w (RetV w (eRollState.val (nextS ss s dr))) := by
  refine en0 55 Tryz.func35 ?_
  refine sg (cons (box (E := eRollState) (.t rfl) (fun b1 => ?_)))
  refine cons (alloc z102 (fun b2 => ?_))
  refine nP (cut (X := Nat) (fun x : Nat => True) (fun x : Nat => [dz, (0, true, .pointer (some ⟨b, 0, none⟩)), (2, true, .bool dr), (4, true, .pointer (some ⟨b1, 0, none⟩)), (6, true, .pointer (some ⟨b2, 0, none⟩)), (7, true, .pointer (some ⟨x, 0, none⟩))]) (fun x : Nat => [Var x eStage (ss.getD s.stage.toNat eStage.zero) 37, Var b2 eRollState eRollState.zero 102, Var b1 eRollState s 102]) ?_ (fun x hx => ?_))
  · refine draw' zk ?_
    refine tk 0 rfl (Ev.move (.t rfl)) ?_
    refine tk 1 rfl (Ev.nilCheck (.t rfl)) ?_
    refine tk 2 rfl (fA 2 (.t rfl)) ?_
    refine tk 3 rfl (Ev.load ty29 (.t rfl) (ptsL (fun w I => hb.keep I.keeps) SRollRoll.l_stages)) ?_
    refine tk 4 rfl (fA 1 (.t rfl)) ?_
    refine tk 5 rfl (Ev.ldv ty35 (.t rfl) SRollState.l_stage) ?_
    refine tk 6 rfl (indexAddrU Tryz.underlying29 ty37 (.t rfl) (.t rfl) (fun w I => hs.keep0 I.keeps) hi) ?_
    refine tk 7 rfl (Ev.loadS0 ty37 (.t rfl) (fun w I => hs.keep0 I.keeps) (fun _ => ⟨by omega, by (show (s.stage.toNat : Int) < _); omega⟩)) ?_
    refine al1 8 rfl ((alloc z37 (fun b3 => ?_)))
    refine hdn (al1 9 rfl ((stv ty37 (Lens.id _) (.t rfl) (.t rfl) ?_)))
    refine hdn (ovr (pN (mtP (X := Nat) (_) trivial)))
  obtain ⟨x3, rfl⟩ : ∃ y, y = x := ⟨x, rfl⟩
  show Sat _ _ [dz, (0, true, .pointer (some ⟨b, 0, none⟩)), (2, true, .bool dr), (4, true, .pointer (some ⟨b1, 0, none⟩)), (6, true, .pointer (some ⟨b2, 0, none⟩)), (7, true, .pointer (some ⟨x3, 0, none⟩))] [Var x3 eStage (ss.getD s.stage.toNat eStage.zero) 37, Var b2 eRollState eRollState.zero 102, Var b1 eRollState s 102]
  refine sg (co (fA 2 (.t rfl)) ?_)
  refine co (Ev.ldv ty35 (.t rfl) SRollState.l_seen) ?_
  refine co (Ev.add_u64 (.t rfl) (.c (v := U64 1) rfl)) ?_
  refine co (fA 2 (.t rfl)) ?_
  refine cons (stv ty35 SRollState.l_seen (.t rfl) (.t rfl) ?_)
  refine nP (cut (X := UInt64) (fun x : UInt64 => (x = if dr = true then s.dropped + 1 else s.dropped)) (fun x : UInt64 => [dz, (0, true, .pointer (some ⟨b, 0, none⟩)), (4, true, .pointer (some ⟨b1, 0, none⟩)), (6, true, .pointer (some ⟨b2, 0, none⟩)), (7, true, .pointer (some ⟨x3, 0, none⟩))]) (fun x : UInt64 => [Var x3 eStage (ss.getD s.stage.toNat eStage.zero) 37, Var b2 eRollState eRollState.zero 102, Var b1 eRollState ⟨s.end_, s.stage, s.seen + 1, x⟩ 102]) ?_ (fun x hx => ?_))
  · refine sg (mv rfl (nP ?_))
    first | refine condD rfl (fun h0 => ?_) (fun h0 => ?_) | refine cond rfl (fun h0 => ?_) (fun h0 => ?_)
    · try simp only [Gx.nb] at h0
      refine region (co (fA 3 (.t rfl)) ?_)
      refine co (Ev.ldv ty35 (.t rfl) SRollState.l_dropped) ?_
      refine co (Ev.add_u64 (.t rfl) (.c (v := U64 1) rfl)) ?_
      refine co (fA 3 (.t rfl)) ?_
      refine cons (stv ty35 SRollState.l_dropped (.t rfl) (.t rfl) ?_)
      refine nP (mt (X := UInt64) (_) ?_)
      · try dsimp only
        first | (rw [if_pos h0]; rfl) | (rw [if_neg (by rw [h0]; exact Bool.false_ne_true)]; rfl)
    · try simp only [Gx.nb] at h0
      refine skip (pN (mt (X := UInt64) (_) ?_))
      · try dsimp only
        first | (rw [if_pos h0]; rfl) | (rw [if_neg (by rw [h0]; exact Bool.false_ne_true)]; rfl)
  obtain ⟨d2, rfl⟩ : ∃ y, y = x := ⟨x, rfl⟩
  have hd2 : d2 = if dr = true then s.dropped + 1 else s.dropped := hx
  clear hx
  show Sat _ _ [dz, (0, true, .pointer (some ⟨b, 0, none⟩)), (4, true, .pointer (some ⟨b1, 0, none⟩)), (6, true, .pointer (some ⟨b2, 0, none⟩)), (7, true, .pointer (some ⟨x3, 0, none⟩))] [Var x3 eStage (ss.getD s.stage.toNat eStage.zero) 37, Var b2 eRollState eRollState.zero 102, Var b1 eRollState ⟨s.end_, s.stage, s.seen + 1, d2⟩ 102]
  refine seq (block (sg (co (fA 3 (.t rfl)) ?_)))
  refine co (Ev.ldv ty35 (.t rfl) SRollState.l_dropped) ?_
  refine co (fA 2 (.t rfl)) ?_
  refine co (Ev.ldv ty35 (.t rfl) SStage.l_most) ?_
  refine co (Ev.gtr_u64 (.t rfl) (.t rfl)) ?_
  refine asn rfl (nP ?_)
  first | refine condD rfl (fun h1 => ?_) (fun h1 => ?_) | refine cond rfl (fun h1 => ?_) (fun h1 => ?_)
  · try simp only [Gx.nb] at h1
    refine region (co (fA 0 (.t rfl)) ?_)
    refine cons (stv ty35 SRollState.l_end_ (.t rfl) (.c (v := U64 2) rfl) ?_)
    refine nil (bN (pN (sg (co (Ev.ldv ty102 (.t rfl) (Lens.id _)) ?_))))
    refine cons (stv ty102 (Lens.id _) (.t rfl) (.t rfl) ?_)
    refine nP (ret (done rfl (.cell rfl (fun w I => run_loadVar_pts ty102 (ptsVar zm (Lens.id _) w I)) .nil) (retE ?_)))
    unfold nextS
    dsimp only
    rw [← hd2]
    first
      | (have g : (ss.getD s.stage.toNat eStage.zero).most < d2 := h1
         rw [if_pos g]; rfl)
      | (have g : ¬ (ss.getD s.stage.toNat eStage.zero).most < d2 := h1
         first
           | (have g2 : s.seen + 1 < (ss.getD s.stage.toNat eStage.zero).wait := h2
              rw [if_neg g, if_pos g2]; rfl)
           | (have g2 : ¬ s.seen + 1 < (ss.getD s.stage.toNat eStage.zero).wait := h2
              first
                | (have g3 : (s.stage.toNat : Int) = (ss.length : Int) - 1 := h3
                   rw [if_neg g, if_neg g2, if_pos g3]; rfl)
                | (have g3 : ¬ (s.stage.toNat : Int) = (ss.length : Int) - 1 := h3
                   rw [if_neg g, if_neg g2, if_neg g3]; rfl)))
  · try simp only [Gx.nb] at h1
    refine sg (co (fA 2 (.t rfl)) ?_)
    refine co (Ev.ldv ty35 (.t rfl) SRollState.l_seen) ?_
    refine co (fA 1 (.t rfl)) ?_
    refine co (Ev.ldv ty35 (.t rfl) SStage.l_wait) ?_
    refine co (Ev.lss_u64 (.t rfl) (.t rfl)) ?_
    refine asn rfl (nP ?_)
    first | refine condD rfl (fun h2 => ?_) (fun h2 => ?_) | refine cond rfl (fun h2 => ?_) (fun h2 => ?_)
    · try simp only [Gx.nb] at h2
      refine skip (bN (pN (sg (co (Ev.ldv ty102 (.t rfl) (Lens.id _)) ?_))))
      refine cons (stv ty102 (Lens.id _) (.t rfl) (.t rfl) ?_)
      refine nP (ret (done rfl (.cell rfl (fun w I => run_loadVar_pts ty102 (ptsVar zm (Lens.id _) w I)) .nil) (retE ?_)))
      unfold nextS
      dsimp only
      rw [← hd2]
      first
        | (have g : (ss.getD s.stage.toNat eStage.zero).most < d2 := h1
           rw [if_pos g]; rfl)
        | (have g : ¬ (ss.getD s.stage.toNat eStage.zero).most < d2 := h1
           first
             | (have g2 : s.seen + 1 < (ss.getD s.stage.toNat eStage.zero).wait := h2
                rw [if_neg g, if_pos g2]; rfl)
             | (have g2 : ¬ s.seen + 1 < (ss.getD s.stage.toNat eStage.zero).wait := h2
                first
                  | (have g3 : (s.stage.toNat : Int) = (ss.length : Int) - 1 := h3
                     rw [if_neg g, if_neg g2, if_pos g3]; rfl)
                  | (have g3 : ¬ (s.stage.toNat : Int) = (ss.length : Int) - 1 := h3
                     rw [if_neg g, if_neg g2, if_neg g3]; rfl)))
    · try simp only [Gx.nb] at h2
      refine seq (draw' zk ?_)
      refine tk 0 rfl (fA 1 (.t rfl)) ?_
      refine tk 1 rfl (Ev.ldv ty35 (.t rfl) SRollState.l_stage) ?_
      refine tk 2 rfl (Ev.conv_u64_i Tryz.underlying3 Tryz.underlying35 (.t rfl) (fun _ => (by show s.stage.toNat < _; omega))) ?_
      refine tk 3 rfl (Ev.move (.t rfl)) ?_
      refine tk 4 rfl (Ev.nilCheck (.t rfl)) ?_
      refine tk 5 rfl (fA 2 (.t rfl)) ?_
      refine tk 6 rfl (Ev.load ty29 (.t rfl) (ptsL (fun w I => hb.keep I.keeps) SRollRoll.l_stages)) ?_
      refine tk 7 rfl (Ev.len Tryz.underlying29 (.t rfl) (fun w I => hs.keep0 I.keeps)) ?_
      refine tk 8 rfl (Ev.sub_i (.t rfl) (.c (v := I 1) rfl) (fun _ => zo)) ?_
      refine tk 9 rfl (Ev.eql_i (.t rfl) (.t rfl)) ?_
      refine tk 10 rfl (Ev.assign (.t rfl)) ?_
      refine ovr (pN ?_)
      first | refine condD rfl (fun h3 => ?_) (fun h3 => ?_) | refine cond rfl (fun h3 => ?_) (fun h3 => ?_)
      · try simp only [Gx.nb] at h3
        refine region (co (fA 0 (.t rfl)) ?_)
        refine cons (stv ty35 SRollState.l_end_ (.t rfl) (.c (v := U64 1) rfl) ?_)
        refine nil (bN (pN (sg (co (Ev.ldv ty102 (.t rfl) (Lens.id _)) ?_))))
        refine cons (stv ty102 (Lens.id _) (.t rfl) (.t rfl) ?_)
        refine nP (ret (done rfl (.cell rfl (fun w I => run_loadVar_pts ty102 (ptsVar zm (Lens.id _) w I)) .nil) (retE ?_)))
        unfold nextS
        dsimp only
        rw [← hd2]
        first
          | (have g : (ss.getD s.stage.toNat eStage.zero).most < d2 := h1
             rw [if_pos g]; rfl)
          | (have g : ¬ (ss.getD s.stage.toNat eStage.zero).most < d2 := h1
             first
               | (have g2 : s.seen + 1 < (ss.getD s.stage.toNat eStage.zero).wait := h2
                  rw [if_neg g, if_pos g2]; rfl)
               | (have g2 : ¬ s.seen + 1 < (ss.getD s.stage.toNat eStage.zero).wait := h2
                  first
                    | (have g3 : (s.stage.toNat : Int) = (ss.length : Int) - 1 := h3
                       rw [if_neg g, if_neg g2, if_pos g3]; rfl)
                    | (have g3 : ¬ (s.stage.toNat : Int) = (ss.length : Int) - 1 := h3
                       rw [if_neg g, if_neg g2, if_neg g3]; rfl)))
      · try simp only [Gx.nb] at h3
        refine region (co (fA 1 (.t rfl)) ?_)
        refine co (Ev.ldv ty35 (.t rfl) SRollState.l_stage) ?_
        refine co (Ev.add_u64 (.t rfl) (.c (v := U64 1) rfl)) ?_
        refine co (Ev.buildS (fs := _) (places := [(0, 1), (1, 1), (2, 1), (3, 1)]) z102 rfl Tryz.underlying102 zk (.cons (.t rfl) .nil) (Fills.cons SRollState.l_stage rfl Fills.nil)) ?_
        refine cons (stv ty102 (Lens.id _) (.t rfl) (.t rfl) ?_)
        refine nil (bN (pN (sg (co (Ev.ldv ty102 (.t rfl) (Lens.id _)) ?_))))
        refine cons (stv ty102 (Lens.id _) (.t rfl) (.t rfl) ?_)
        refine nP (ret (done rfl (.cell rfl (fun w I => run_loadVar_pts ty102 (ptsVar zm (Lens.id _) w I)) .nil) (retE ?_)))
        unfold nextS
        dsimp only
        rw [← hd2]
        first
          | (have g : (ss.getD s.stage.toNat eStage.zero).most < d2 := h1
             rw [if_pos g]; rfl)
          | (have g : ¬ (ss.getD s.stage.toNat eStage.zero).most < d2 := h1
             first
               | (have g2 : s.seen + 1 < (ss.getD s.stage.toNat eStage.zero).wait := h2
                  rw [if_neg g, if_pos g2]; rfl)
               | (have g2 : ¬ s.seen + 1 < (ss.getD s.stage.toNat eStage.zero).wait := h2
                  first
                    | (have g3 : (s.stage.toNat : Int) = (ss.length : Int) - 1 := h3
                       rw [if_neg g, if_neg g2, if_pos g3]; rfl)
                    | (have g3 : ¬ (s.stage.toNat : Int) = (ss.length : Int) - 1 := h3
                       rw [if_neg g, if_neg g2, if_neg g3]; rfl)))
end Go.Proofs.YtakmoeladkajdaaGreat
namespace Go.Proofs.YtakmoeladkajdaaGreat
open Go Go.Gx Go.Proofs.YtakmoeladkajdaaGreat.Tri Go.Proofs.YtakmoeladkajdaaGreat.Oc
theorem zb37 : (Tryz.prog.info? 37).map (fun i => (i.zero, i.bytes)) = some (some (eStage.val eStage.zero), 24) := by kernel_rfl
theorem zs37 : (eStage.val eStage.zero).cells.size = eStage.size := by rw [Enc.cells_val, List.size_toArray, Enc.len]
theorem clone_37 (u : Value) (xs : List SStage) (w : World) (hl : IsSl eStage w u xs) (hn : xs.length * 24 ≤ 140737488355328) : Calls Tryz.prog 23 #[u] w (RetO w eStage xs 37) := by
  have hle := hl.le
  have hl2 := hl
  obtain ⟨sa, cap, rfl, hc1, hc2, hc3, hc4⟩ := hl2
  replace hc3 : sa = none → [] = xs := fun e => (hc3 e).1.symm
  refine en0 8 Tryz.func23 ?_
  refine sg (co (Ev.assign (.c (v := (Go.Value.slice none 0 0)) rfl)) ?_)
  refine nP (seq (sg (mv rfl (co (Ev.eql_slnil Tryz.underlying29 (.t rfl) (.c rfl)) ?_))))
  refine nP ?_
  first | refine condD rfl (fun h0 => ?_) (fun h0 => ?_) | refine cond rfl (fun h0 => ?_) (fun h0 => ?_)
  · try simp only [Gx.nb] at h0
    refine sg (takeNil eStage 37 ?_)
    refine co (Ev.assign (.c (v := (Go.Value.slice none 0 0)) rfl)) ?_
    refine nP (ret (pR (done rfl (.tmp rfl .nil) (retOE zm ?_))))
    first | exact hc3 (by simpa using h0) | (symm; exact hc3 (by simpa using h0))
  · try simp only [Gx.nb] at h0
    refine skip (pN (sg (cons (buildSlice (E := eStage) Tryz.underlying29 ty37 z37 .nil rfl rfl (fun v1 => ?_)))))
    refine mv rfl (cons (app (E := eStage) Tryz.underlying29 ty37 zb37 zs37 (.t rfl) (.t rfl) (fun v2 => ?_) (hsrc := (fun w I => hl.keep0 I.keeps)) (hby := ⟨by (show _ ≤ 9223372036854775807); first | omega | (simp; done) | (simp; omega), by first | omega | (simp; done) | (simp; omega)⟩)))
    refine asn rfl (nP (ret (done rfl (.tmp rfl .nil) (retOE zm ?_))))
    simp
structure RX where
  b : Nat
  p : Pl
  q : Pl
  sv : OV
  r : Res
def recR (p q : Nat) (sv : OV) (n : UInt64) : SRollRoll := ⟨ptrV p, ptrV q, sv, SAtomicUint64.l_v.set eRollRoll.zero.state n⟩
def RX.rv (x : RX) (n : UInt64) : SRollRoll := recR x.p.b x.q.b x.sv n
structure RollAt (w : World) (x : RX) (l1 l2 : CL) (d1 d2 : Int) (ss : List SStage) : Prop where
  p : PlanAt w x.p l1 d1
  q : PlanAt w x.q l2 d2
  s : IsSl eStage w x.sv.v ss
def rollE (l1 l2 : CL) (d1 d2 : Int) (ss : List SStage) : Int := if plE l1 d1 ≠ 0 then plE l1 d1 else if plE l2 d2 ≠ 0 then plE l2 d2 else if (stagesB ss 0 && decide (0 < ss.length)) = false then 310 else 0
def rollO (e : Int) (b : Nat) : Option Addr := if e = 0 then some ⟨b, 0, none⟩ else none
structure NewJ (l1 l2 : CL) (d1 d2 : Int) (ss : List SStage) (x : RX) : Prop where
  p : PlanOK x.p l1 d1
  q : PlanOK x.q l2 d2
  st : stagesB ss 0 = true
  pos : 0 < ss.length
  r : ∀ w, x.r.A w → PlanAt w x.p l1 d1 ∧ PlanAt w x.q l2 d2
def RX.R (x : RX) (ss : List SStage) : List Res := [Var x.b eRollRoll (x.rv 0) 58, x.r, OwnS x.sv.v eStage ss 37]
def RetW31 (w : World) (l1 l2 : CL) (d1 d2 : Int) (ss : List SStage) : Ending → World → Prop :=
  RetN w (fun x : RX => rollE l1 l2 d1 d2 ss = 0 → NewJ l1 l2 d1 d2 ss x) (fun x => .tuple #[.pointer (rollO (rollE l1 l2 d1 d2 ss) x.b), I (rollE l1 l2 d1 d2 ss)]) (fun x => if rollE l1 l2 d1 d2 ss = 0 then x.R ss else [])
def plV (l : CL) (d : Int) (b : Nat) : OV := ⟨.pointer (plO l d b), rfl⟩
theorem pl_ok {l : CL} {d : Int} (h : ¬ plE l d ≠ 0) : mayB l d = true := by
  unfold plE at h
  split at h
  · assumption
  · exact absurd (by decide) h
theorem plV_ok {l : CL} {d : Int} (h : mayB l d = true) (b : Nat) : plV l d b = ptrV b := by
  unfold plV ptrV plO
  simp only [h, if_true]
theorem new_bad {w0 : World} {n : Nat} {L : List Res} {l1 l2 : CL} {d1 d2 : Int} {ss : List SStage} {e : Int} (he : rollE l1 l2 d1 d2 ss = e) (hn : e ≠ 0) : ∀ w, WInv ⟨n, w0, Nope⟩ L w → RetW31 w0 l1 l2 d1 d2 ss (.returned (.tuple #[.pointer none, I e])) w := by
  subst he
  exact retN ⟨0, noPl, noPl, nilSl, Emp⟩ (fun h => absurd h hn) (by unfold rollO; rw [if_neg hn]) (by rw [if_neg hn]; exact List.nil_sublist _)
theorem en23 : Gx.Enters Tryz.prog 23 := Gx.Enters.mk' zk
theorem z58 : (Tryz.prog.info? 58).bind (·.zero) = some (eRollRoll.val eRollRoll.zero) := by kernel_rfl
theorem en24 : Gx.Enters Tryz.prog 24 := Gx.Enters.mk' zk
theorem en25 : Gx.Enters Tryz.prog 25 := Gx.Enters.mk' zk
set_option maxRecDepth 8000 in
theorem new_ok (c1 c2 : SConf) (l1 l2 : CL) (u : Value) (ss : List SStage) (w : World) (hc1 : ConfAt w c1 l1) (hc2 : ConfAt w c2 l2) (hu : IsSl eStage w u ss) (hn1 : l1.Names) (hn2 : l2.Names) (hz1 : l1.n ≤ 4611686018427387904) (hz2 : l2.n ≤ 4611686018427387904) (hss : ss.length * 24 ≤ 140737488355328) : Calls Tryz.prog 8 #[eConf.val c1, eConf.val c2, u] w (RetW31 w l1 l2 c1.default c2.default ss) := by
  refine en0 40 Tryz.func8 ?_
  refine sg (cons (box (E := eConf) (.t rfl) (fun b1 => ?_)))
  refine cons (box (E := eConf) (.t rfl) (fun b2 => ?_))
  refine co (Ev.assign (.c (v := (Go.Value.pointer none)) rfl)) ?_
  refine co (Ev.assign (.c (v := I 0) rfl)) ?_
  refine nP (seq (emp0 ?_))
  refine region (mv rfl (cons (callo en23 (.cons (.t rfl) .nil) (fun w I => clone_37 _ _ w (hu.keep0 I.keeps) hss) (fun v3 => ?_))))
  refine co (Ev.buildS (fs := _) (places := [(0, 1), (1, 1), (2, 1), (3, 1)]) z58 rfl Tryz.underlying58 zk (.cons (.t rfl) .nil) (Fills.cons SRollRoll.l_stages rfl Fills.nil)) ?_
  refine cons (box (E := eRollRoll) (.t rfl) (fun b4 => ?_))
  refine asn rfl (nP (sg (co (Ev.assign (.c (v := I 0) rfl)) ?_)))
  refine nP (seq (sg (mv rfl (co (Ev.ldv ty28 (.t rfl) (Lens.id _)) ?_))))
  refine cons (calln (X := Pl × List Res) (CompileJ l1 c1.default) (fun x : Pl × List Res => .tuple #[.pointer (plO l1 c1.default x.1.b), I (plE l1 c1.default)]) (fun x => x.2) en24 (.cons (.t rfl) .nil) (fun w I => compile_plan c1 l1 w (hc1.keep0 I.keeps) hn1 hz1) (fun x1 hx1 => ?_))
  refine takeSeps (r := Emp) zr ?_
  refine mv rfl (co (Ev.to (v' := (plV l1 c1.default x1.1.b).v) (Ev.extract (.t rfl) rfl) (rfl)) ?_)
  refine co (Ev.extract (.t rfl) rfl) (co (Ev.nilCheck (.t rfl)) ?_)
  refine co (fA 0 (.t rfl)) ?_
  refine cons (stv ty51 SRollRoll.l_old (.t rfl) (.t rfl) ?_)
  refine asn rfl (nP (sg (mv rfl (co (Ev.neq_i (.t rfl) (.c (v := I 0) rfl)) ?_))))
  refine nP ?_
  first | refine condD rfl (fun h0 => ?_) (fun h0 => ?_) | refine cond rfl (fun h0 => ?_) (fun h0 => ?_)
  · have h0 : plE l1 c1.default ≠ 0 := by simpa using h0
    refine sg (mv rfl (co (Ev.assign (.c (v := (Go.Value.pointer none)) rfl)) ?_))
    refine asn rfl (nP (ret (pR (done rfl (.tmp rfl (.tmp rfl .nil)) (fun w I => ?_)))))
    exact new_bad (by unfold rollE; rw [if_pos h0]) h0 w I
  · have h0 : ¬ plE l1 c1.default ≠ 0 := by simpa using h0
    refine skip (pN (seq (sg (mv rfl (co (Ev.ldv ty28 (.t rfl) (Lens.id _)) ?_)))))
    refine cons (calln (X := Pl × List Res) (CompileJ l2 c2.default) (fun x : Pl × List Res => .tuple #[.pointer (plO l2 c2.default x.1.b), I (plE l2 c2.default)]) (fun x => x.2) en24 (.cons (.t rfl) .nil) (fun w I => compile_plan c2 l2 w (hc2.keep0 I.keeps) hn2 hz2) (fun x2 hx2 => ?_))
    refine takeSeps (r := Seps Emp x1.2) zr ?_
    refine mv rfl (co (Ev.to (v' := (plV l2 c2.default x2.1.b).v) (Ev.extract (.t rfl) rfl) (rfl)) ?_)
    refine co (Ev.extract (.t rfl) rfl) (co (Ev.nilCheck (.t rfl)) ?_)
    refine co (fA 1 (.t rfl)) ?_
    refine cons (stv ty51 SRollRoll.l_new (.t rfl) (.t rfl) ?_)
    refine asn rfl (nP (sg (mv rfl (co (Ev.neq_i (.t rfl) (.c (v := I 0) rfl)) ?_))))
    refine nP ?_
    first | refine condD rfl (fun h1 => ?_) (fun h1 => ?_) | refine cond rfl (fun h1 => ?_) (fun h1 => ?_)
    · have h1 : plE l2 c2.default ≠ 0 := by simpa using h1
      refine sg (mv rfl (co (Ev.assign (.c (v := (Go.Value.pointer none)) rfl)) ?_))
      refine asn rfl (nP (ret (pR (done rfl (.tmp rfl (.tmp rfl .nil)) (fun w I => ?_)))))
      exact new_bad (by unfold rollE; rw [if_neg h0, if_pos h1]) h1 w I
    · have h1 : ¬ plE l2 c2.default ≠ 0 := by simpa using h1
      refine skip (pN (seq (sg (mv rfl (cons (callv en25 (.cons (.t rfl) .nil) (fun w I => rollmay_ok _ ss w (hu.keep0 I.keeps)) ?_))))))
      refine co (Ev.not (.t rfl)) ?_
      refine nP ?_
      first | refine condD rfl (fun h2 => ?_) (fun h2 => ?_) | refine cond rfl (fun h2 => ?_) (fun h2 => ?_)
      · have h2 : (stagesB ss 0 && decide (0 < ss.length)) = false := by
          have h9 : (!(stagesB ss 0 && decide (0 < ss.length))) = true := h2
          simpa only [Bool.not_eq_true'] using h9
        refine sg (co (Ev.assign (.c (v := (Go.Value.pointer none)) rfl)) ?_)
        refine co (Ev.assign (.c (v := I 310) rfl)) ?_
        refine nP (ret (pR (done rfl (.tmp rfl (.tmp rfl .nil)) (fun w I => ?_))))
        exact new_bad (by unfold rollE; rw [if_neg h0, if_neg h1, if_pos h2]) (by decide) w I
      · have h2 : (stagesB ss 0 && decide (0 < ss.length)) = true := by
          have h9 : (!(stagesB ss 0 && decide (0 < ss.length))) = false := h2
          simpa only [Bool.not_eq_false'] using h9
        refine skip (pN (sg (mv rfl (asn rfl (co (Ev.assign (.c (v := I 0) rfl)) ?_)))))
        refine nP (ret (done rfl (.tmp rfl (.tmp rfl .nil)) (fun w I => ?_)))
        have e0 : rollE l1 l2 c1.default c2.default ss = 0 := by unfold rollE; rw [if_neg h0, if_neg h1, if_neg (by rw [h2]; decide)]
        have hm1 := pl_ok h0
        have hm2 := pl_ok h1
        obtain ⟨k1, k2⟩ := hx1 hm1
        obtain ⟨k3, k4⟩ := hx2 hm2
        have hst := (Bool.and_eq_true _ _).mp h2
        have k6 : ∀ w, (Seps (Seps Emp x1.2) x2.2).A w → PlanAt w x1.1 l1 c1.default ∧ PlanAt w x2.1 l2 c2.default := fun w1 a1 => ⟨k2 w1 (Seps.A _ _ (Seps.A _ _ a1).1).2, k4 w1 (Seps.A _ _ a1).2⟩
        have k7 : (⟨plV l1 c1.default x1.1.b, plV l2 c2.default x2.1.b, v3, eRollRoll.zero.state⟩ : SRollRoll) = recR x1.1.b x2.1.b v3 0 := by rw [plV_ok hm1, plV_ok hm2]; rfl
        refine retNP (⟨b4, x1.1, x2.1, v3, Seps (Seps Emp x1.2) x2.2⟩ : RX) (fun _ => ⟨k1, k3, hst.1, of_decide_eq_true hst.2, k6⟩) (by rw [e0]; rfl) ?_ w I
        rw [if_pos e0]
        unfold RX.R RX.rv
        simp only []
        rw [← k7]
        exact (by repeat first | exact SubP.nil | refine SubP.cons zr ?_)
end Go.Proofs.YtakmoeladkajdaaGreat
namespace Go.Proofs.YtakmoeladkajdaaGreat
open Go Go.Gx Go.Proofs.YtakmoeladkajdaaGreat.Tri Go.Proofs.YtakmoeladkajdaaGreat.Oc
structure SJob where
  now : UInt64
  in_ : Int
  packet : OV
def SJob.to : (UInt64 × (Int × OV)) → SJob := fun x => ⟨x.1, x.2.1, x.2.2⟩
def SJob.of : SJob → (UInt64 × (Int × OV)) := fun x => (x.now, x.in_, x.packet)
def eJob : Enc SJob := isoE (prodE u64E (prodE iE (ovE nilSl))) SJob.to SJob.of
def SJob.l_now : Lens eJob u64E 0 := lIso _ SJob.to SJob.of (fun _ => rfl) (lFst u64E (prodE iE (ovE nilSl)))
@[simp] theorem SJob.get_now (x : SJob) : SJob.l_now.get x = x.now := rfl
@[simp] theorem SJob.set_now (x : SJob) (y : UInt64) : SJob.l_now.set x y = { x with now := y } := rfl
def SJob.l_in_ : Lens eJob iE 1 := lIso _ SJob.to SJob.of (fun _ => rfl) (Lens.comp (lSnd u64E (prodE iE (ovE nilSl))) (lFst iE (ovE nilSl)))
@[simp] theorem SJob.get_in_ (x : SJob) : SJob.l_in_.get x = x.in_ := rfl
@[simp] theorem SJob.set_in_ (x : SJob) (y : Int) : SJob.l_in_.set x y = { x with in_ := y } := rfl
def SJob.l_packet : Lens eJob (ovE nilSl) 2 := lIso _ SJob.to SJob.of (fun _ => rfl) (Lens.comp (lSnd u64E (prodE iE (ovE nilSl))) (Lens.comp (lSnd iE (ovE nilSl)) (Lens.id (ovE nilSl))))
@[simp] theorem SJob.get_packet (x : SJob) : SJob.l_packet.get x = x.packet := rfl
@[simp] theorem SJob.set_packet (x : SJob) (y : OV) : SJob.l_packet.set x y = { x with packet := y } := rfl
def GateOK {σ : Type} (g : Value) (S : σ → Res) (J : σ → UInt8 → σ → Prop) (D : σ → Prop) : Prop := ∀ (s : σ) (o : UInt8) (w : World), D s → At (S s) w → Calls Tryz.prog 32 #[g, U8 o] w (Gx.RetR w (S s) (J s o) (fun _ => .tuple #[]) S)
theorem gate_nil : GateOK nilIf.v (fun _ : Unit => Emp) (fun _ _ _ => True) (fun _ => True) := fun s o w _ h => (step_nil o w).mono fun e w' ⟨h1, h2⟩ => ⟨(), trivial, h1, h2.mono (fun _ h => h.elim), trivial, fun b hb => hb.elim⟩
def partK (bs : List UInt8) : UInt64 := (partV (ofK (readH bs)) 100).1
def pE (bs : List UInt8) : Int := if readE bs ≠ 0 then readE bs else deE (readH bs) (readD bs).length
def pV (l : CL) (d n : Int) (bs : List UInt8) : SVerdict := dvV l d n (readH bs) (readD bs).length
def oldB (ss : List SStage) (n : UInt64) (bs : List UInt8) : Bool := decide ((splitS n).end_ = 2) || decide (UInt64.ofInt (ss.getD (splitS n).stage.toNat eStage.zero).parts ≤ partK bs)
def way (ss : List SStage) (n : UInt64) (bs : List UInt8) : Nat := if (splitS n).end_ = 1 then 0 else if oldB ss n bs = true then 1 else 2
def passV (l1 l2 : CL) (d1 d2 i : Int) (ss : List SStage) (n : UInt64) (bs : List UInt8) : SVerdict := if pE bs ≠ 0 then eVerdict.zero else if way ss n bs = 1 then pV l1 d1 i bs else pV l2 d2 i bs
def passB (ss : List SStage) (n : UInt64) (bs : List UInt8) : Bool := if pE bs ≠ 0 then false else decide (way ss n bs ≠ 1)
def passW (l2 : CL) (d2 i : Int) (ss : List SStage) (n : UInt64) (bs : List UInt8) : UInt64 := if pE bs ≠ 0 then n else if way ss n bs = 2 then wordS (nextS ss (splitS n) (decide (¬ (pV l2 d2 i bs).action = 3))) else n
def passS {σ : Type} (J : σ → UInt8 → σ → Prop) (s : σ) (ss : List SStage) (n : UInt64) (bs : List UInt8) (s2 : σ) : Prop := if pE bs ≠ 0 then s2 = s else if way ss n bs = 2 then ∃ t, J s 1 t ∧ J t 5 s2 else J s 1 s2
theorem readD_len' (b : List UInt8) (he : readE b = 0) : (readD b).length ≤ 2048 := by
  have h1 : ¬ ((frontB b).2.1 < frontN (frontB b).1 ∨ 2048 < (frontB b).2.1) := fun h => by
    unfold readE at he
    rw [if_pos h] at he
    split at he
    · exact absurd he (by assumption)
    · exact absurd he (by decide)
  unfold readD midD restOf
  simp
  omega
section
variable {l1 l2 : CL} {d1 d2 i : Int} {ss : List SStage} {n : UInt64} {bs : List UInt8}
theorem pass_bad (h : pE bs ≠ 0) : passV l1 l2 d1 d2 i ss n bs = eVerdict.zero ∧ passB ss n bs = false ∧ passW l2 d2 i ss n bs = n := ⟨if_pos h, if_pos h, if_pos h⟩
theorem passS_bad {σ : Type} (J : σ → UInt8 → σ → Prop) (s : σ) (h : pE bs ≠ 0) : passS J s ss n bs s := (if_pos h).mpr rfl
end
theorem sel3 {α : Type} {e : Int} {k : Nat} (a b c : α) (h : e = 0) : (if e ≠ 0 then a else if k = 1 then b else c) = if k = 1 then b else c := if_neg (fun q => q h)
theorem selW {α : Type} {e : Int} {k : Nat} (a b : α) (h : e = 0) : (if e ≠ 0 then a else if k = 2 then b else a) = if k = 2 then b else a := if_neg (fun q => q h)
theorem selB {e : Int} {k : Nat} (h : e = 0) : (if e ≠ 0 then false else decide (k ≠ 1)) = decide (k ≠ 1) := if_neg (fun q => q h)
theorem selS {α : Type} {e : Int} {k : Nat} (z a b : α) (h : e = 0) : (if e ≠ 0 then z else if k = 2 then b else a) = if k = 2 then b else a := if_neg (fun q => q h)
theorem pass_g (l1 l2 : CL) (d1 d2 i : Int) (ss : List SStage) (n : UInt64) (bs : List UInt8) {σ : Type} (J : σ → UInt8 → σ → Prop) (s s2 : σ) (k : Nat) (m : UInt64) (h : pE bs = 0) (hw : way ss n bs = k) (hm : wordS (nextS ss (splitS n) (decide (¬ (pV l2 d2 i bs).action = 3))) = m) :
    passV l1 l2 d1 d2 i ss n bs = (if k = 1 then pV l1 d1 i bs else pV l2 d2 i bs) ∧ passB ss n bs = decide (k ≠ 1) ∧ passW l2 d2 i ss n bs = (if k = 2 then m else n) ∧ passS J s ss n bs s2 = (if k = 2 then ∃ t, J s 1 t ∧ J t 5 s2 else J s 1 s2) := by
  subst hw
  subst hm
  exact ⟨sel3 _ _ _ h, selB h, selW _ _ h, selS _ _ _ h⟩
theorem pass_0 {l1 l2 : CL} {d1 d2 i : Int} {ss : List SStage} {n : UInt64} {bs : List UInt8} {σ : Type} (J : σ → UInt8 → σ → Prop) (s s2 : σ) (h : pE bs = 0) (hw : way ss n bs = 0) : passV l1 l2 d1 d2 i ss n bs = pV l2 d2 i bs ∧ passB ss n bs = true ∧ passW l2 d2 i ss n bs = n ∧ passS J s ss n bs s2 = J s 1 s2 := by
  obtain ⟨q1, q2, q3, q4⟩ := pass_g l1 l2 d1 d2 i ss n bs J s s2 0 _ h hw rfl
  rw [if_neg (show ¬ (0:Nat) = 1 by decide)] at q1
  rw [if_neg (show ¬ (0:Nat) = 2 by decide)] at q3 q4
  exact ⟨q1, q2, q3, q4⟩
theorem pass_1 {l1 l2 : CL} {d1 d2 i : Int} {ss : List SStage} {n : UInt64} {bs : List UInt8} {σ : Type} (J : σ → UInt8 → σ → Prop) (s s2 : σ) (h : pE bs = 0) (hw : way ss n bs = 1) : passV l1 l2 d1 d2 i ss n bs = pV l1 d1 i bs ∧ passB ss n bs = false ∧ passW l2 d2 i ss n bs = n ∧ passS J s ss n bs s2 = J s 1 s2 := by
  obtain ⟨q1, q2, q3, q4⟩ := pass_g l1 l2 d1 d2 i ss n bs J s s2 1 _ h hw rfl
  rw [if_pos (show (1:Nat) = 1 by decide)] at q1
  rw [if_neg (show ¬ (1:Nat) = 2 by decide)] at q3 q4
  exact ⟨q1, q2, q3, q4⟩
theorem pass_2 {l1 l2 : CL} {d1 d2 i : Int} {ss : List SStage} {n : UInt64} {bs : List UInt8} {σ : Type} (J : σ → UInt8 → σ → Prop) (s s2 : σ) {m : UInt64} (h : pE bs = 0) (hw : way ss n bs = 2) (hm : wordS (nextS ss (splitS n) (decide (¬ (pV l2 d2 i bs).action = 3))) = m) : passV l1 l2 d1 d2 i ss n bs = pV l2 d2 i bs ∧ passB ss n bs = true ∧ passW l2 d2 i ss n bs = m ∧ passS J s ss n bs s2 = ∃ t, J s 1 t ∧ J t 5 s2 := by
  obtain ⟨q1, q2, q3, q4⟩ := pass_g l1 l2 d1 d2 i ss n bs J s s2 2 m h hw hm
  rw [if_neg (show ¬ (2:Nat) = 1 by decide)] at q1
  rw [if_pos (show (2:Nat) = 2 by decide)] at q3 q4
  exact ⟨q1, q2, q3, q4⟩
theorem decide_to (p : Pl) (l : CL) (d n : Int) (h : SHeader) (dt : List UInt8) (V : SVerdict) (e : Int) (w : World) (hp : PlanAt w p l d) (ho : PlanOK p l d) (hd : IsSl u8E w h.data.v dt) (hl : dt.length ≤ 1152921504606846975) (hV : dvV l d n h dt.length = V) (he : deE h dt.length = e) : Calls Tryz.prog 31 #[.pointer (some ⟨p.b, 0, none⟩), I n, eHeader.val h] w (RetV w (.tuple #[eVerdict.val V, I e])) := by
  subst hV
  subst he
  exact decide_ok p l d n h dt w hp ho hd hl
theorem part_to (k : SKey) (z : UInt64) (w : World) (h : (partV k 100).1 = z) : Calls Tryz.prog 11 #[eKey.val k] w (RetV w (U64 z)) := h ▸ rollpart_ok k w
theorem word_to (s : SRollState) (m : UInt64) (w : World) (h : wordS s = m) : Calls Tryz.prog 36 #[eRollState.val s] w (RetV w (U64 m)) := h ▸ word_ok s w
def RG {σ : Type} (x : RX) (n : UInt64) (S : σ → Res) (s : σ) : Res := Sep (Var x.b eRollRoll (x.rv n) 58) (S s)
theorem en29 : Gx.Enters Tryz.prog 29 := Gx.Enters.mk' zk
theorem en30 : Gx.Enters Tryz.prog 30 := Gx.Enters.mk' zk
theorem en11 : Gx.Enters Tryz.prog 11 := Gx.Enters.mk' zk
theorem en31 : Gx.Enters Tryz.prog 31 := Gx.Enters.mk' zk
theorem en35 : Gx.Enters Tryz.prog 35 := Gx.Enters.mk' zk
theorem en36 : Gx.Enters Tryz.prog 36 := Gx.Enters.mk' zk
theorem en37 : Gx.Enters Tryz.prog 37 := Gx.Enters.mk' zk
set_option maxRecDepth 8000 in
set_option maxHeartbeats 1000000 in
theorem pass_ok {σ : Type} (S : σ → Res) (J : σ → UInt8 → σ → Prop) (D : σ → Prop) (g : Value) (hg : GateOK g S J D) (s : σ) (hD : D s) (hD1 : ∀ s1, J s 1 s1 → D s1) (x0 : RX) (l1 l2 : CL) (d1 d2 : Int) (ss : List SStage) (n : UInt64) (j : SJob) (bs : List UInt8) (w : World) (h : At (RG x0 n S s) w) (hN : ∀ w2, Keeps (RG x0 n S s).foot w w2 → RollAt w2 x0 l1 l2 d1 d2 ss) (hb : ∀ w2, Keeps (RG x0 n S s).foot w w2 → IsSl u8E w2 j.packet.v bs) (ho1 : PlanOK x0.p l1 d1) (ho2 : PlanOK x0.q l2 d2) (hs : (splitS n).stage.toNat < ss.length) (hl : ss.length ≤ 256) : Calls Tryz.prog 13 #[.pointer (some ⟨x0.b, 0, none⟩), g, eJob.val j] w (Gx.RetR w (RG x0 n S s) (passS J s ss n bs) (fun _ => .tuple #[eVerdict.val (passV l1 l2 d1 d2 j.in_ ss n bs), .bool (passB ss n bs), I (pE bs)]) (fun s2 => RG x0 (passW l2 d2 j.in_ ss n bs) S s2)) := by
  obtain ⟨vn, hvn⟩ : ∃ z, pV l2 d2 j.in_ bs = z := ⟨_, rfl⟩
  obtain ⟨vo, hvo⟩ : ∃ z, pV l1 d1 j.in_ bs = z := ⟨_, rfl⟩
  obtain ⟨pk, hpk⟩ : ∃ z, partK bs = z := ⟨_, rfl⟩
  obtain ⟨de, hde⟩ : ∃ z, deE (readH bs) (readD bs).length = z := ⟨_, rfl⟩
  refine enter (RG x0 n S s).foot 110 [RG x0 n S s] Tryz.func13 rfl rfl (Nat.le_of_ble_eq_true rfl) (start_at h) ?_
  refine sepOut Rem.head ?_
  refine sg (cons (box (E := eJob) (.t rfl) (fun b1 => ?_)))
  refine cons (alloc z60 (fun b2 => ?_))
  refine co (Ev.assign (.c (v := .bool false) rfl)) ?_
  refine co (Ev.assign (.c (v := I 0) rfl)) ?_
  refine nP (seq (sg (mv rfl (cons (callv en28 (.cons (.t rfl) .nil) (fun w I => rthere_ok x0.b x0.q.b _ w (ptsVar zm (Lens.id _) w I) rfl) ?_)))))
  refine co (Ev.not (.t rfl)) ?_
  refine nP (condF rfl (rfl) ?_)
  refine skip (pN (sg (co (fA 2 (.t rfl)) ?_)))
  refine co (Ev.ldx j.packet ty63 (.t rfl) SJob.l_packet) ?_
  refine cons (calln (X := OV) (fun o : OV => readE bs ≠ 0 → o = nilSl) (fun o => .tuple #[eHeader.val (wD (readH bs) o), I (readN bs), I (readE bs)]) (fun o => if readE bs = 0 then [OwnS o.v u8E (readD bs) 5] else []) en29 (.cons (.t rfl) .nil) (fun w I => read_ok _ bs w (hb w I.keeps)) (fun xo hxo => ?_))
  refine mv rfl (co (Ev.extract (.t rfl) rfl) (co (Ev.extract (.t rfl) rfl) (co (Ev.extract (.t rfl) rfl) (cons (alloc z93 (fun b3 => ?_))))))
  refine cons (stv ty93 (Lens.id _) (.t rfl) (.t rfl) ?_)
  refine asn rfl (asn rfl (nP (seq (sg (mv rfl (co (Ev.neq_i (.t rfl) (.c (v := I 0) rfl)) ?_))))))
  refine nP ?_
  first | refine condD rfl (fun h1 => ?_) (fun h1 => ?_) | refine cond rfl (fun h1 => ?_) (fun h1 => ?_)
  · have h1 : readE bs ≠ 0 := by simpa using h1
    rw [if_neg h1]
    refine sg (co (Ev.buildS (fs := _) (places := [(0, 1), (1, 1), (2, 1), (3, 1), (4, 1)]) z60 rfl Tryz.underlying60 zk .nil Fills.nil) ?_)
    refine mv rfl (cons (stv ty60 (Lens.id _) (.t rfl) (.t rfl) ?_))
    refine co (Ev.assign (.c (v := .bool false) rfl)) ?_
    refine asn rfl (nP (ret (pR (done rfl (.cell rfl (fun w I => run_loadVar_pts ty60 (ptsVar zm (Lens.id _) w I)) (.tmp rfl (.tmp rfl .nil))) (fun w I => ?_)))))
    have e : pE bs ≠ 0 := by unfold pE; rw [if_pos h1]; exact h1
    have e2 : pE bs = readE bs := by unfold pE; rw [if_pos h1]
    obtain ⟨q1, q2, q3⟩ := pass_bad (l1 := l1) (l2 := l2) (d1 := d1) (d2 := d2) (i := j.in_) (ss := ss) (n := n) e
    rw [q1, q2, q3, e2]
    exact Gx.retR (r' := fun s2 => RG x0 n S s2) s (passS_bad J s e) rfl (List.mem_singleton_self _) w (WInv.sepIn (I.subP (by repeat first | exact SubP.nil | refine SubP.cons zr ?_)))
  · have h1 : readE bs = 0 := by simpa using h1
    have hdl := readD_len' bs h1
    rw [if_pos h1]
    refine skip (pN (sg (co (Ev.ldv ty93 (.t rfl) (Lens.id _)) ?_)))
    refine cons (callv en30 (.cons (.t rfl) .nil) (fun w I => Oc.of_ok _ w) ?_)
    refine cons (callv en11 (.cons (.t rfl) .nil) (fun w I => part_to _ _ w hpk) ?_)
    refine asn rfl (nP (cut (X := Nat) (fun x : Nat => True) (fun x : Nat => [dz, (0, true, .pointer (some ⟨x0.b, 0, none⟩)), (1, true, g), (5, true, .pointer (some ⟨b1, 0, none⟩)), (6, true, .pointer (some ⟨b2, 0, none⟩)), (9, true, .pointer (some ⟨b3, 0, none⟩)), (11, true, I de), (12, true, U64 pk), (13, true, .pointer (some ⟨x, 0, none⟩))]) (fun x : Nat => [Var x eVerdict vn 60, Var b3 eHeader (wD (readH bs) xo) 93, OwnS xo.v u8E (readD bs) 5, Var b2 eVerdict eVerdict.zero 60, Var b1 eJob j 65, Var x0.b eRollRoll (x0.rv n) 58, S s]) ?_ (fun x hx => ?_)))
    · refine draw' zk ?_
      refine tk 0 rfl (Ev.move (.t rfl)) ?_
      refine tk 1 rfl (Ev.nilCheck (.t rfl)) ?_
      refine tk 2 rfl (fA 1 (.t rfl)) ?_
      refine tk 3 rfl (Ev.to (v' := .pointer (some ⟨x0.q.b, 0, none⟩)) (Ev.ldv ty51 (.t rfl) SRollRoll.l_new) (rfl)) ?_
      refine tk 4 rfl (fA 1 (.t rfl)) ?_
      refine tk 5 rfl (Ev.ldx j.in_ ty3 (.t rfl) SJob.l_in_) ?_
      refine tk 6 rfl (Ev.ldv ty93 (.t rfl) (Lens.id _)) ?_
      refine all [7, 11] zk (by decide) (.cons rfl ?_ (.cons rfl ?_ .nil))
      · refine (callv en31 (.cons (.t rfl) (.cons (.t rfl) (.cons (.t rfl) .nil))) (fun w I => decide_to x0.q l2 d2 _ (wD (readH bs) xo) (readD bs) _ _ w (hN w I.keeps).q ho2 (io w I) (by omega) hvn hde) ?_)
        refine hdn (tk 8 rfl (Ev.move (.t rfl)) ?_)
        refine tk 9 rfl (Ev.extract (.t rfl) rfl) ?_
        refine tk 10 rfl (Ev.extract (.t rfl) rfl) ?_
        refine al1 11 rfl ((alloc z60 (fun b4 => ?_)))
        refine hdn (al1 12 rfl ((stv ty60 (Lens.id _) (.t rfl) (.t rfl) ?_)))
        refine hdn (tk 13 rfl (Ev.assign (.t rfl)) ?_)
        refine ovr (pN (mtP (X := Nat) (_) trivial))
      · refine (alloc z60 (fun b5 => ?_))
        refine hdn (al1 7 rfl ((callv en31 (.cons (.t rfl) (.cons (.t rfl) (.cons (.t rfl) .nil))) (fun w I => decide_to x0.q l2 d2 _ (wD (readH bs) xo) (readD bs) _ _ w (hN w I.keeps).q ho2 (io w I) (by omega) hvn hde) ?_)))
        refine hdn (tk 8 rfl (Ev.move (.t rfl)) ?_)
        refine tk 9 rfl (Ev.extract (.t rfl) rfl) ?_
        refine tk 10 rfl (Ev.extract (.t rfl) rfl) ?_
        refine al1 12 rfl ((stv ty60 (Lens.id _) (.t rfl) (.t rfl) ?_))
        refine hdn (tk 13 rfl (Ev.assign (.t rfl)) ?_)
        refine ovr (pN (mtP (X := Nat) (_) trivial))
    obtain ⟨x3, rfl⟩ : ∃ y, y = x := ⟨x, rfl⟩
    show Sat _ _ [dz, (0, true, .pointer (some ⟨x0.b, 0, none⟩)), (1, true, g), (5, true, .pointer (some ⟨b1, 0, none⟩)), (6, true, .pointer (some ⟨b2, 0, none⟩)), (9, true, .pointer (some ⟨b3, 0, none⟩)), (11, true, I de), (12, true, U64 pk), (13, true, .pointer (some ⟨x3, 0, none⟩))] [Var x3 eVerdict vn 60, Var b3 eHeader (wD (readH bs) xo) 93, OwnS xo.v u8E (readD bs) 5, Var b2 eVerdict eVerdict.zero 60, Var b1 eJob j 65, Var x0.b eRollRoll (x0.rv n) 58, S s]
    refine seq (sg (mv rfl (co (Ev.neq_i (.t rfl) (.c (v := I 0) rfl)) ?_)))
    refine nP ?_
    first | refine condD rfl (fun h2 => ?_) (fun h2 => ?_) | refine cond rfl (fun h2 => ?_) (fun h2 => ?_)
    · have h2 : de ≠ 0 := by simpa using h2
      refine sg (co (Ev.buildS (fs := _) (places := [(0, 1), (1, 1), (2, 1), (3, 1), (4, 1)]) z60 rfl Tryz.underlying60 zk .nil Fills.nil) ?_)
      refine mv rfl (cons (stv ty60 (Lens.id _) (.t rfl) (.t rfl) ?_))
      refine co (Ev.assign (.c (v := .bool false) rfl)) ?_
      refine asn rfl (nP (ret (pR (done rfl (.cell rfl (fun w I => run_loadVar_pts ty60 (ptsVar zm (Lens.id _) w I)) (.tmp rfl (.tmp rfl .nil))) (fun w I => ?_)))))
      have e : pE bs ≠ 0 := by unfold pE; rw [if_neg (fun k => k h1), hde]; exact h2
      have e2 : pE bs = de := by unfold pE; rw [if_neg (fun k => k h1), hde]
      obtain ⟨q1, q2, q3⟩ := pass_bad (l1 := l1) (l2 := l2) (d1 := d1) (d2 := d2) (i := j.in_) (ss := ss) (n := n) e
      rw [q1, q2, q3, e2]
      exact Gx.retR (r' := fun s2 => RG x0 n S s2) s (passS_bad J s e) rfl (List.mem_singleton_self _) w (WInv.sepIn (I.subP (by repeat first | exact SubP.nil | refine SubP.cons zr ?_)))
    · have h2 : de = 0 := by simpa using h2
      have he0 : pE bs = 0 := by unfold pE; rw [if_neg (fun k => k h1), hde]; exact h2
      refine skip (pN (block (lp (X := Unit) (fun _ : Unit => True) (fun _ : Unit => [dz, (0, true, .pointer (some ⟨x0.b, 0, none⟩)), (1, true, g), (5, true, .pointer (some ⟨b1, 0, none⟩)), (6, true, .pointer (some ⟨b2, 0, none⟩)), (9, true, .pointer (some ⟨b3, 0, none⟩)), (12, true, U64 pk), (13, true, .pointer (some ⟨x3, 0, none⟩))]) (fun _ : Unit => [Var x3 eVerdict vn 60, Var b3 eHeader (wD (readH bs) xo) 93, OwnS xo.v u8E (readD bs) 5, Var b2 eVerdict eVerdict.zero 60, Var b1 eJob j 65, Var x0.b eRollRoll (x0.rv n) 58, S s]) (fun _ : Unit => 0) () trivial (fun x hx => ?_))))
      show Sat _ _ [dz, (0, true, .pointer (some ⟨x0.b, 0, none⟩)), (1, true, g), (5, true, .pointer (some ⟨b1, 0, none⟩)), (6, true, .pointer (some ⟨b2, 0, none⟩)), (9, true, .pointer (some ⟨b3, 0, none⟩)), (12, true, U64 pk), (13, true, .pointer (some ⟨x3, 0, none⟩))] [Var x3 eVerdict vn 60, Var b3 eHeader (wD (readH bs) xo) 93, OwnS xo.v u8E (readD bs) 5, Var b2 eVerdict eVerdict.zero 60, Var b1 eJob j 65, Var x0.b eRollRoll (x0.rv n) 58, S s]
      refine block (sg (mv rfl (cons (callr (X := σ) (J s 1) (fun _ => .tuple #[]) (r := S s) (r' := S) (fun _ => zu) zm en32 (.cons (.t rfl) (.cons (.c (v := U8 1) rfl) .nil)) (fun w I => hg s 1 w hD (am w I)) (fun s1 hs1 => ?_)))))
      refine nP (sg (mv rfl (co (Ev.nilCheck (.t rfl)) ?_)))
      refine co (fA 3 (.t rfl)) ?_
      refine cons (callv en33 (.cons (.t rfl) .nil) (fun w I => load64_ok _ _ n w (ptsVar zm (Lens.comp SRollRoll.l_state SAtomicUint64.l_v) w I)) ?_)
      refine asn rfl (nP (sg (mv rfl (cons (callv en34 (.cons (.t rfl) .nil) (fun w I => split_ok _ w) ?_)))))
      refine cons (alloc z102 (fun b6 => ?_))
      refine cons (stv ty102 (Lens.id _) (.t rfl) (.t rfl) ?_)
      refine nP (seq (sg (co (fA 0 (.t rfl)) ?_)))
      refine co (Ev.ldv ty35 (.t rfl) SRollState.l_end_) ?_
      refine co (Ev.eql_u64 (.t rfl) (.c (v := U64 1) rfl)) ?_
      refine nP ?_
      first | refine condD rfl (fun h3 => ?_) (fun h3 => ?_) | refine cond rfl (fun h3 => ?_) (fun h3 => ?_)
      · have h3 : (splitS n).end_ = 1 := by simpa using h3
        refine sg (co (Ev.ldv ty60 (.t rfl) (Lens.id _)) ?_)
        refine cons (stv ty60 (Lens.id _) (.t rfl) (.t rfl) ?_)
        refine co (Ev.assign (.c (v := .bool true) rfl)) ?_
        refine co (Ev.assign (.c (v := I 0) rfl)) ?_
        refine nP (ret (pR (bR (pR (bR (done rfl (.cell rfl (fun w I => run_loadVar_pts ty60 (ptsVar zm (Lens.id _) w I)) (.tmp rfl (.tmp rfl .nil))) (fun w I => ?_)))))))
        have ew : way ss n bs = 0 := by unfold way; rw [if_pos h3]
        obtain ⟨q1, q2, q3, q4⟩ := pass_0 (l1 := l1) (l2 := l2) (d1 := d1) (d2 := d2) (i := j.in_) (ss := ss) (n := n) J s s1 he0 ew
        rw [q1, q2, q3, he0, hvn]
        exact Gx.retR (r' := fun s2 => RG x0 n S s2) s1 (q4.mpr hs1) rfl (List.mem_singleton_self _) w (WInv.sepIn (I.subP (by repeat first | exact SubP.nil | refine SubP.cons zr ?_)))
      · have h3 : ¬ (splitS n).end_ = 1 := by simpa using h3
        refine skip (pN (seq (seq (draw' zk ?_))))
        refine tk 0 rfl (fA 0 (.t rfl)) ?_
        refine tk 1 rfl (Ev.ldv ty35 (.t rfl) SRollState.l_end_) ?_
        refine tk 2 rfl (Ev.eql_u64 (.t rfl) (.c (v := U64 2) rfl)) ?_
        refine tk 3 rfl (Ev.move (.t rfl)) ?_
        refine tkg 4 rfl rfl rfl (Ev.move (.t rfl)) ?_
        refine tkg 5 rfl rfl rfl (Ev.move (.t rfl)) ?_
        refine tkg 6 rfl rfl rfl (Ev.nilCheck (.g rfl id)) ?_
        refine tkg 7 rfl rfl rfl (fA 2 (.g rfl id)) ?_
        refine tkg 8 rfl rfl rfl (Ev.ldv ty29 (.g rfl id) SRollRoll.l_stages) ?_
        refine tkg 9 rfl rfl rfl (fA 1 (.t rfl)) ?_
        refine tkg 10 rfl rfl rfl (Ev.ldv ty35 (.g rfl id) SRollState.l_stage) ?_
        refine tkg 11 rfl rfl rfl (indexAddrU Tryz.underlying29 ty37 (.g rfl (by simp_all)) (.g rfl (by simp_all)) (fun w I => (hN w I.keeps).s) hs) ?_
        refine tkg 12 rfl rfl rfl (Ev.fieldAddrS (o := 0) (i := ((splitS n).stage.toNat : Int)) (.g rfl id) (fun w I => (hN w I.keeps).s) (fun _ => ⟨by omega, by (show ((splitS n).stage.toNat : Int) < _); omega⟩) zk) ?_
        refine tkg 13 rfl rfl rfl (Ev.loadS ty3 SStage.l_parts rfl (.g rfl id) (fun w I => (hN w I.keeps).s) (fun _ => ⟨by omega, by (show ((splitS n).stage.toNat : Int) < _); omega⟩)) ?_
        refine tkg 14 rfl rfl rfl (Ev.conv_i_u64 Tryz.underlying35 Tryz.underlying3 (.g rfl id)) ?_
        refine tkg 15 rfl rfl rfl (Ev.geq_u64 (.g rfl id) (.g rfl id)) ?_
        refine tk 16 rfl (Ev.pkO (.t rfl) rfl) ?_
        refine ovr (pN ?_)
        first | refine condD rfl (fun h4 => ?_) (fun h4 => ?_) | refine cond rfl (fun h4 => ?_) (fun h4 => ?_)
        · have h4 : oldB ss n bs = true := by unfold oldB; rw [hpk]; exact h4
          refine cut (X := Nat) (fun x : Nat => True) (fun x : Nat => [dz, (6, true, .pointer (some ⟨b2, 0, none⟩)), (16, true, .pointer (some ⟨x, 0, none⟩)), (17, true, I 0)]) (fun x : Nat => [Var x eVerdict vo 60, Var b2 eVerdict eVerdict.zero 60, Var x0.b eRollRoll (x0.rv n) 58, S s1]) ?_ (fun x hx => ?_)
          · refine draw' zk ?_
            refine tk 0 rfl (Ev.move (.t rfl)) ?_
            refine tk 1 rfl (Ev.nilCheck (.t rfl)) ?_
            refine tk 2 rfl (fA 0 (.t rfl)) ?_
            refine tk 3 rfl (Ev.to (v' := .pointer (some ⟨x0.p.b, 0, none⟩)) (Ev.ldv ty51 (.t rfl) SRollRoll.l_old) (rfl)) ?_
            refine tk 4 rfl (fA 1 (.t rfl)) ?_
            refine tk 5 rfl (Ev.ldx j.in_ ty3 (.t rfl) SJob.l_in_) ?_
            refine tk 6 rfl (Ev.ldv ty93 (.t rfl) (Lens.id _)) ?_
            refine all [7, 11] zk (by decide) (.cons rfl ?_ (.cons rfl ?_ .nil))
            · refine (callv en31 (.cons (.t rfl) (.cons (.t rfl) (.cons (.t rfl) .nil))) (fun w I => decide_to x0.p l1 d1 _ (wD (readH bs) xo) (readD bs) _ _ w (hN w I.keeps).p ho1 (io w I) (by omega) hvo hde) ?_)
              refine hdn (tk 8 rfl (Ev.move (.t rfl)) ?_)
              refine tk 9 rfl (Ev.extract (.t rfl) rfl) ?_
              refine tk 10 rfl (Ev.to (v' := I 0) (Ev.extract (.t rfl) rfl) (congrArg Gx.I h2)) ?_
              refine al1 11 rfl ((alloc z60 (fun b7 => ?_)))
              refine hdn (al1 12 rfl ((stv ty60 (Lens.id _) (.t rfl) (.t rfl) ?_)))
              refine hdn (tk 13 rfl (Ev.assign (.t rfl)) ?_)
              refine ovr (pN (mtP (X := Nat) (_) trivial))
            · refine (alloc z60 (fun b8 => ?_))
              refine hdn (al1 7 rfl ((callv en31 (.cons (.t rfl) (.cons (.t rfl) (.cons (.t rfl) .nil))) (fun w I => decide_to x0.p l1 d1 _ (wD (readH bs) xo) (readD bs) _ _ w (hN w I.keeps).p ho1 (io w I) (by omega) hvo hde) ?_)))
              refine hdn (tk 8 rfl (Ev.move (.t rfl)) ?_)
              refine tk 9 rfl (Ev.extract (.t rfl) rfl) ?_
              refine tk 10 rfl (Ev.to (v' := I 0) (Ev.extract (.t rfl) rfl) (congrArg Gx.I h2)) ?_
              refine al1 12 rfl ((stv ty60 (Lens.id _) (.t rfl) (.t rfl) ?_))
              refine hdn (tk 13 rfl (Ev.assign (.t rfl)) ?_)
              refine ovr (pN (mtP (X := Nat) (_) trivial))
          obtain ⟨x4, rfl⟩ : ∃ y, y = x := ⟨x, rfl⟩
          show Sat _ _ [dz, (6, true, .pointer (some ⟨b2, 0, none⟩)), (16, true, .pointer (some ⟨x4, 0, none⟩)), (17, true, I 0)] [Var x4 eVerdict vo 60, Var b2 eVerdict eVerdict.zero 60, Var x0.b eRollRoll (x0.rv n) 58, S s1]
          refine sg (co (Ev.ldv ty60 (.t rfl) (Lens.id _)) ?_)
          refine mv rfl (cons (stv ty60 (Lens.id _) (.t rfl) (.t rfl) ?_))
          refine co (Ev.assign (.c (v := .bool false) rfl)) ?_
          refine asn rfl (nP (ret (pR (bR (pR (bR (done rfl (.cell rfl (fun w I => run_loadVar_pts ty60 (ptsVar zm (Lens.id _) w I)) (.tmp rfl (.tmp rfl .nil))) (fun w I => ?_))))))))
          have ew : way ss n bs = 1 := by unfold way; rw [if_neg h3, if_pos h4]
          obtain ⟨q1, q2, q3, q4⟩ := pass_1 (l1 := l1) (l2 := l2) (d1 := d1) (d2 := d2) (i := j.in_) (ss := ss) (n := n) J s s1 he0 ew
          rw [q1, q2, q3, he0, hvo]
          exact Gx.retR (r' := fun s2 => RG x0 n S s2) s1 (q4.mpr hs1) rfl (List.mem_singleton_self _) w (WInv.sepIn (I.subP (by repeat first | exact SubP.nil | refine SubP.cons zr ?_)))
        · have h4 : oldB ss n bs = false := by unfold oldB; rw [hpk]; exact h4
          refine skip (pN (seq ?_))
          obtain ⟨m, hm⟩ : ∃ z, wordS (nextS ss (splitS n) (decide (¬ vn.action = 3))) = z := ⟨_, rfl⟩
          refine region (mv rfl (co (Ev.ldv ty102 (.t rfl) (Lens.id _)) ?_))
          refine co (fA 0 (.t rfl)) ?_
          refine co (Ev.ldv ty3 (.t rfl) SVerdict.l_action) ?_
          refine co (Ev.neq_i (.t rfl) (.c (v := I 3) rfl)) ?_
          refine cons (callv en35 (.cons (.t rfl) (.cons (.t rfl) (.cons (.t rfl) .nil))) (fun w I => counted_ok x0.b (x0.rv n) ss (splitS n) _ w (ptsVar zm (Lens.id _) w I) (hN w I.keeps).s hs hl) ?_)
          refine cons (callv en36 (.cons (.t rfl) .nil) (fun w I => word_to _ m w hm) ?_)
          refine asn rfl (nP (sg (mv rfl (cons (callr (X := σ) (J s1 5) (fun _ => .tuple #[]) (r := S s1) (r' := S) (fun _ => zu) zm en32 (.cons (.t rfl) (.cons (.c (v := U8 5) rfl) .nil)) (fun w I => hg s1 5 w (hD1 _ hs1) (am w I)) (fun s2 hs2 => ?_))))))
          refine nP (sg (mv rfl (co (Ev.nilCheck (.t rfl)) ?_)))
          refine co (fA 3 (.t rfl)) ?_
          refine mv rfl (mv rfl (cons (callr (X := Unit) (fun _ => True) (fun _ => .bool true) (fun _ => zu) zm en37 (.cons (.t rfl) (.cons (.t rfl) (.cons (.t rfl) .nil))) (fun w I => cas64_ok (Lens.comp SRollRoll.l_state SAtomicUint64.l_v) x0.b (x0.rv n) _ 58 w (am w I)) (fun _ _ => ?_))))
          refine nP (condT rfl (rfl) ?_)
          refine sg (co (Ev.ldv ty60 (.t rfl) (Lens.id _)) ?_)
          refine cons (stv ty60 (Lens.id _) (.t rfl) (.t rfl) ?_)
          refine co (Ev.assign (.c (v := .bool true) rfl)) ?_
          refine co (Ev.assign (.c (v := I 0) rfl)) ?_
          refine nP (ret (bR (pR (bR (done rfl (.cell rfl (fun w I => run_loadVar_pts ty60 (ptsVar zm (Lens.id _) w I)) (.tmp rfl (.tmp rfl .nil))) (fun w I => ?_))))))
          have ew : way ss n bs = 2 := by unfold way; rw [if_neg h3, if_neg (by rw [h4]; exact Bool.false_ne_true)]
          obtain ⟨q1, q2, q3, q4⟩ := pass_2 (l1 := l1) (l2 := l2) (d1 := d1) (d2 := d2) (i := j.in_) (ss := ss) (n := n) J s s2 he0 ew (m := m) (by rw [hvn]; exact hm)
          rw [q1, q2, q3, he0, hvn]
          exact Gx.retR (r' := fun s2 => RG x0 m S s2) s2 (q4.mpr ⟨s1, hs1, hs2⟩) rfl (List.mem_singleton_self _) w (WInv.sepIn (I.subP (by repeat first | exact SubP.nil | refine SubP.cons zr ?_)))
end Go.Proofs.YtakmoeladkajdaaGreat
namespace Go.Proofs.YtakmoeladkajdaaGreat
open Go Go.Gx Go.Proofs.YtakmoeladkajdaaGreat.Tri Go.Proofs.YtakmoeladkajdaaGreat.Oc
def hdr9 (i : UInt16) : SHeader := { eHeader.zero with proto := 17, srcPort := i, dstPort := 9, tTL := 5 }
def oneN (low : Bool) : Nat := if low = true then 1 else 0
def oneB (low : Bool) : List UInt8 := makeB (hdr9 (UInt16.ofNat (oneN low))) []
theorem chk9 (k : Nat) (h : k ≤ 1) : checkH (hdr9 (UInt16.ofNat k)) 0 = 0 := by
  have h2 : k = 0 ∨ k = 1 := by omega
  rcases h2 with rfl | rfl
  · decide +kernel
  · decide +kernel
theorem one_le (low : Bool) : oneN low ≤ 1 := by unfold oneN; split <;> omega
theorem one_lt {low : Bool} {i : Int} (h : 0 ≤ i ∧ i ≤ oneN low) : i < 4096 := by
  have := one_le low
  omega
theorem one_l1 {low : Bool} {i : Int} (h : 0 ≤ i ∧ i ≤ oneN low) : i.toNat ≤ 1 := by
  have := one_le low
  omega
theorem one_tab (low : Bool) (k : Nat) (h : k ≤ oneN low) : (decide ((partV (ofK (hdr9 (UInt16.ofNat k))) 100).1 < 50) == low) = decide (k = oneN low) := by
  have h0 : decide ((partV (ofK (hdr9 (UInt16.ofNat 0))) 100).1 < 50) = false := by decide +kernel
  have h1 : decide ((partV (ofK (hdr9 (UInt16.ofNat 1))) 100).1 < 50) = true := by decide +kernel
  cases low with
  | false =>
    obtain rfl : k = 0 := by simpa [oneN] using h
    rw [h0]; rfl
  | true =>
    have h2 : k = 0 ∨ k = 1 := by
      have : k ≤ 1 := by simpa [oneN] using h
      omega
    rcases h2 with rfl | rfl
    · rw [h0]; rfl
    · rw [h1]; rfl
theorem ofInt9 {low : Bool} {i : Int} (h : 0 ≤ i ∧ i ≤ oneN low) : UInt16.ofInt i = UInt16.ofNat i.toNat := by
  have := one_le low
  have h2 : i = 0 ∨ i = 1 := by omega
  rcases h2 with rfl | rfl <;> decide
theorem make_to (h : SHeader) (w : World) (hd : h.data = nilSl) (hc : checkH h 0 = 0) : Calls Tryz.prog 38 #[eHeader.val h] w (RetN w (fun _ : OV => True) (fun o => .tuple #[o.v, I 0]) (fun o => [OwnS o.v u8E (makeB h []) 5])) := by
  refine (make_ok h [] w (by rw [hd]; exact IsSl.nil _ w) (by simp)).mono ?_
  rintro e w' ⟨o, _, he, hk, hn⟩
  have hc2 : checkH h (([] : List UInt8).length : Int) = 0 := hc
  rw [hc2] at he
  simp only [hc2, if_true] at hn
  exact ⟨o, trivial, he, hk, hn⟩
def allU : SRule := { eRule.zero with name := ⟨#[97, 108, 108]⟩, action := 3, out := 1 }
def dropsL : CL := ⟨[1], [], [], [], []⟩
def sendsL : CL := ⟨[1], [], [allU], [], []⟩
set_option maxRecDepth 8000 in
theorem drops_ok (w : World) : Calls Tryz.prog 16 #[] w (RetN w (fun _ : OV => True) (fun o => eConf.val ⟨o, nilSl, nilSl, nilSl, nilSl, 2⟩) (fun o => [OwnS o.v iE [1] 3])) := by
  refine en0 3 Tryz.func16 ?_
  refine sg (cons (alloc z28 (fun b1 => ?_)))
  refine nP (sg (cons (buildSlice (E := iE) Tryz.underlying22 ty3 z3 (.cons (.c (v := I 1) rfl) .nil) rfl rfl (fun v2 => ?_))))
  refine co (Ev.buildS (fs := _) (places := [(0, 1), (1, 1), (2, 1), (3, 1), (4, 1), (5, 1)]) z28 rfl Tryz.underlying28 zk (.cons (.t rfl) (.cons (.c (v := I 2) rfl) .nil)) (Fills.cons SConf.l_ports rfl (Fills.cons SConf.l_default rfl Fills.nil))) ?_
  refine cons (stv ty28 (Lens.id _) (.t rfl) (.t rfl) ?_)
  refine nP (ret (done rfl (.cell rfl (fun w I => run_loadVar_pts ty28 (ptsVar zm (Lens.id _) w I)) .nil) (fun w I => ?_)))
  exact retNP v2 trivial rfl (by repeat first | exact SubP.nil | refine SubP.cons zr ?_) w I
set_option maxRecDepth 8000 in
theorem sends_ok (w : World) : Calls Tryz.prog 17 #[] w (RetN w (fun _ : OV × OV => True) (fun o => eConf.val ⟨o.1, nilSl, o.2, nilSl, nilSl, 2⟩) (fun o => [OwnS o.1.v iE [1] 3, OwnS o.2.v eRule [allU] 113])) := by
  refine en0 5 Tryz.func17 ?_
  refine sg (cons (alloc z28 (fun b1 => ?_)))
  refine nP (sg (cons (buildSlice (E := iE) Tryz.underlying22 ty3 z3 (.cons (.c (v := I 1) rfl) .nil) rfl rfl (fun v2 => ?_))))
  refine co (Ev.buildS (fs := _) (places := [(0, 1), (1, 44), (45, 1), (46, 1), (47, 1), (48, 1)]) z113 rfl Tryz.underlying113 zk (.cons (.c (v := (Go.Value.string (ByteArray.mk #[97, 108, 108]))) rfl) (.cons (.c (v := I 3) rfl) (.cons (.c (v := I 1) rfl) .nil))) (Fills.cons SRule.l_name rfl (Fills.cons SRule.l_action rfl (Fills.cons SRule.l_out rfl Fills.nil)))) ?_
  refine cons (buildSlice (E := eRule) Tryz.underlying24 ty113 z113 (.cons (.t rfl) .nil) rfl rfl (fun v3 => ?_))
  refine co (Ev.buildS (fs := _) (places := [(0, 1), (1, 1), (2, 1), (3, 1), (4, 1), (5, 1)]) z28 rfl Tryz.underlying28 zk (.cons (.t rfl) (.cons (.t rfl) (.cons (.c (v := I 2) rfl) .nil))) (Fills.cons SConf.l_ports rfl (Fills.cons SConf.l_rules rfl (Fills.cons SConf.l_default rfl Fills.nil)))) ?_
  refine cons (stv ty28 (Lens.id _) (.t rfl) (.t rfl) ?_)
  refine nP (ret (done rfl (.cell rfl (fun w I => run_loadVar_pts ty28 (ptsVar zm (Lens.id _) w I)) .nil) (fun w I => ?_)))
  exact retNP (v2, v3) trivial rfl (by repeat first | exact SubP.nil | refine SubP.cons zr ?_) w I
theorem en38 : Gx.Enters Tryz.prog 38 := Gx.Enters.mk' zk
set_option maxRecDepth 8000 in
theorem one_ok (low : Bool) (w : World) : Calls Tryz.prog 18 #[.bool low] w (RetO w u8E (oneB low) 5) := by
  refine en0 30 Tryz.func18 ?_
  refine sg (co (Ev.assign (.c (v := (Go.Value.slice none 0 0)) rfl)) ?_)
  refine nP (seq (sg (co (Ev.assign (.c (v := I 0) rfl)) ?_)))
  refine nP (block (lp (X := Int) (fun x : Int => (0 ≤ x ∧ x ≤ oneN low)) (fun x : Int => [dz, (0, true, .bool low), (3, true, I x)]) (fun x : Int => []) (fun x : Int => ((oneN low : Int) - x).toNat) (0) ?_ (fun x hx => ?_)))
  · exact ⟨by omega, by omega⟩
  obtain ⟨i, rfl⟩ : ∃ y, y = x := ⟨x, rfl⟩
  have hi : 0 ≤ i ∧ i ≤ oneN low := hx
  clear hx
  show Sat _ _ [dz, (0, true, .bool low), (3, true, I i)] []
  refine seq (sg (mv rfl (co (Ev.lss_i (.t rfl) (.c (v := I 4096) rfl)) ?_)))
  refine nP (condT rfl (decide_eq_true (one_lt hi)) ?_)
  refine skip (pN (seq (block (seq ?_))))
  obtain ⟨pk, hpk⟩ : ∃ z, (partV (ofK (hdr9 (UInt16.ofNat i.toNat))) 100).1 = z := ⟨_, rfl⟩
  refine region (mv rfl (co (Ev.conv_i_u16 Tryz.underlying46 Tryz.underlying3 (.t rfl)) ?_))
  refine co (Ev.to (v' := eHeader.val (hdr9 (UInt16.ofNat i.toNat))) (Ev.buildS (fs := _) (places := [(0, 17), (17, 17), (34, 1), (35, 1), (36, 1), (37, 1), (38, 1), (39, 1), (40, 1), (41, 1), (42, 1)]) z93 rfl Tryz.underlying93 zk (.cons (.c (v := U8 17) rfl) (.cons (.t rfl) (.cons (.c (v := U16 9) rfl) (.cons (.c (v := U8 5) rfl) .nil)))) (Fills.cons SHeader.l_proto rfl (Fills.cons SHeader.l_srcPort rfl (Fills.cons SHeader.l_dstPort rfl (Fills.cons SHeader.l_tTL rfl Fills.nil))))) (congrArg (fun x => eHeader.val (hdr9 x)) (ofInt9 hi))) ?_
  refine cons (alloc z93 (fun b1 => ?_))
  refine cons (stv ty93 (Lens.id _) (.t rfl) (.t rfl) ?_)
  refine nP (sg (co (Ev.ldv ty93 (.t rfl) (Lens.id _)) ?_))
  refine cons (calln (X := OV) (fun _ => True) (fun o => .tuple #[o.v, I 0]) (fun o => [OwnS o.v u8E (makeB (hdr9 (UInt16.ofNat i.toNat)) []) 5]) en38 (.cons (.t rfl) .nil) (fun w I => make_to _ w rfl (chk9 _ (one_l1 hi))) (fun o4 _ => ?_))
  refine mv rfl (co (Ev.extract (.t rfl) rfl) (co (Ev.extract (.t rfl) rfl) (asn rfl (asn rfl (nP (sg (mv rfl (co (Ev.eql_i (.t rfl) (.c (v := I 0) rfl)) ?_))))))))
  refine mv rfl (cg rfl rfl (Ev.ldv ty93 (.t rfl) (Lens.id _)) ?_)
  refine cons (callg rfl rfl en30 (.cons (.g rfl id) .nil) (fun hg w I => Oc.of_ok _ w) ?_)
  refine cons (callg rfl rfl en11 (.cons (.g rfl id) .nil) (fun hg w I => part_to _ pk w hpk) ?_)
  refine cg rfl rfl (Ev.lss_u64 (.g rfl id) (.c (v := U64 50) rfl)) ?_
  refine cg rfl rfl (Ev.move (.t rfl)) ?_
  refine cg rfl rfl (Ev.eql_b Tryz.underlying4 (.g rfl id) (.g rfl id)) ?_
  refine co (Ev.pkA (.t rfl) rfl) ?_
  refine nP ?_
  first | refine condD rfl (fun h1 => ?_) (fun h1 => ?_) | refine cond rfl (fun h1 => ?_) (fun h1 => ?_)
  · have h1 : (decide (pk < 50) == low) = true := by simpa using h1
    rw [← hpk, one_tab low i.toNat (by omega)] at h1
    have h1 : i.toNat = oneN low := by simpa using h1
    refine sg (mv rfl (asn rfl (nP (ret (bR (pR (pR (bR (pR (done rfl (.tmp rfl .nil) (retOE zm ?_)))))))))))
    unfold oneB
    rw [h1]
  · have h1 : (decide (pk < 50) == low) = false := by simpa using h1
    rw [← hpk, one_tab low i.toNat (by omega)] at h1
    have h1 : ¬ i.toNat = oneN low := by simpa using h1
    refine skip (bN (pN (region (mv rfl (co (Ev.add_i (.t rfl) (.c (v := I 1) rfl) (fun _ => by have := one_lt hi; omega)) ?_)))))
    refine asn rfl (nP (nx (X := Int) (i + 1) ?_ ?_))
    · try dsimp only
      have : ¬ i.toNat = oneN low := h1; omega
    · try dsimp only
      have : ¬ i.toNat = oneN low := h1; omega
end Go.Proofs.YtakmoeladkajdaaGreat
namespace Go.Proofs.YtakmoeladkajdaaGreat
open Go Go.Gx Go.Proofs.YtakmoeladkajdaaGreat.Tri Go.Proofs.YtakmoeladkajdaaGreat.Oc
theorem new_good {c1 c2 : SConf} {l1 l2 : CL} {d1 d2 : Int} {u : Value} {ss : List SStage} {w : World} (hc1 : ConfAt w c1 l1) (hc2 : ConfAt w c2 l2) (hu : IsSl eStage w u ss) (hn1 : l1.Names) (hn2 : l2.Names) (hz1 : l1.n ≤ 4611686018427387904) (hz2 : l2.n ≤ 4611686018427387904) (hss : ss.length * 24 ≤ 140737488355328) (hd1 : c1.default = d1) (hd2 : c2.default = d2) (he : rollE l1 l2 d1 d2 ss = 0) :
    Calls Tryz.prog 8 #[eConf.val c1, eConf.val c2, u] w (RetN w (NewJ l1 l2 d1 d2 ss) (fun x => .tuple #[.pointer (some ⟨x.b, 0, none⟩), I 0]) (fun x => [Var x.b eRollRoll (x.rv 0) 58, x.r, OwnS x.sv.v eStage ss 37])) := by
  subst hd1
  subst hd2
  refine (new_ok c1 c2 l1 l2 u ss w hc1 hc2 hu hn1 hn2 hz1 hz2 hss).mono ?_
  rintro e w' ⟨x, hJ, hv, hk, hn⟩
  simp only [he, if_true] at hn
  rw [he] at hv
  exact ⟨x, hJ he, hv, hk, hn⟩
theorem pass_nil (x0 : RX) (l1 l2 : CL) (d1 d2 : Int) (ss : List SStage) (n : UInt64) (j : SJob) (bs : List UInt8) (V : SVerdict) (q : Bool) (m : UInt64) (e : Int) (w : World) (h : At (Var x0.b eRollRoll (x0.rv n) 58) w) (hN : ∀ w2, Keeps (Var x0.b eRollRoll (x0.rv n) 58).foot w w2 → RollAt w2 x0 l1 l2 d1 d2 ss) (hb : ∀ w2, Keeps (Var x0.b eRollRoll (x0.rv n) 58).foot w w2 → IsSl u8E w2 j.packet.v bs) (ho1 : PlanOK x0.p l1 d1) (ho2 : PlanOK x0.q l2 d2) (hs : (splitS n).stage.toNat < ss.length) (hl : ss.length ≤ 256)
    (hV : passV l1 l2 d1 d2 j.in_ ss n bs = V) (hq : passB ss n bs = q) (hm : passW l2 d2 j.in_ ss n bs = m) (he : pE bs = e) :
    Calls Tryz.prog 13 #[.pointer (some ⟨x0.b, 0, none⟩), nilIf.v, eJob.val j] w (Gx.RetR w (Var x0.b eRollRoll (x0.rv n) 58) (fun _ : Unit => True) (fun _ => .tuple #[eVerdict.val V, .bool q, I e]) (fun _ => Var x0.b eRollRoll (x0.rv m) 58)) := by
  subst hV
  subst hq
  subst hm
  subst he
  have hk2 : ∀ w2, Keeps (RG x0 n (fun _ : Unit => Emp) ()).foot w w2 → Keeps (Var x0.b eRollRoll (x0.rv n) 58).foot w w2 := fun w2 k => k.mono (fun b hb => hb.elim id (fun h => h.elim))
  refine (pass_ok (fun _ : Unit => Emp) (fun _ _ _ => True) (fun _ => True) nilIf.v gate_nil () trivial (fun _ _ => trivial) x0 l1 l2 d1 d2 ss n j bs w ⟨⟨h.1, trivial, fun b _ hb => hb.elim⟩, fun b hb => hb.elim (h.2 b) (fun h => h.elim)⟩ (fun w2 k => hN w2 (hk2 w2 k)) (fun w2 k => hb w2 (hk2 w2 k)) ho1 ho2 hs hl).mono ?_
  rintro e w' ⟨u, hJ, hv, hk, ha, hf⟩
  exact ⟨(), trivial, hv, hk2 w' hk, ha.1, fun b hb => ⟨(hf b (.inl hb)).1.elim (fun h => h.elim .inl (fun h => h.elim)) .inr, (hf b (.inl hb)).2⟩⟩
theorem roll_keep {K : Ctx} {L L' : List Res} {r : Res} {x : RX} {l1 l2 : CL} {d1 d2 : Int} {ss : List SStage} {w : World} (I : WInv K L w) (hr : Rem L r L') (h1 : x.r ∈ L') (h2 : OwnS x.sv.v eStage ss 37 ∈ L') (hx : NewJ l1 l2 d1 d2 ss x) : ∀ w2, Keeps r.foot w w2 → RollAt w2 x l1 l2 d1 d2 ss := fun w2 k =>
  have I2 := I.but hr k
  ⟨(hx.r w2 (I2.own _ h1).1).1, (hx.r w2 (I2.own _ h1).1).2, IsSl.of_own (I2.own _ h2).1⟩
theorem own_keep {α : Type} {K : Ctx} {L L' : List Res} {r : Res} {v : Value} {E : Enc α} {xs : List α} {t : TypeId} {w : World} (I : WInv K L w) (hr : Rem L r L') (h : OwnS v E xs t ∈ L') : ∀ w2, Keeps r.foot w w2 → IsSl E w2 v xs := fun w2 k => IsSl.of_own ((I.but hr k).own _ h).1
theorem stage_to (x : RX) (m : UInt64) (a : Int) (b c : UInt64) (w : World) (hb : PtsTo eRollRoll w x.b 0 (x.rv m)) (h : ((splitS m).stage.toNat : Int) = a ∧ (splitS m).seen = b ∧ (splitS m).dropped = c) : Calls Tryz.prog 14 #[.pointer (some ⟨x.b, 0, none⟩), nilIf.v] w (RetV w (.tuple #[I a, U64 b, U64 c, I 0])) := by
  obtain ⟨h1, rfl, rfl⟩ := h
  rw [← h1]
  exact stage_ok x.b x.q.b (x.rv m) w hb rfl
theorem over_to (x : RX) (m : UInt64) (a b : Bool) (w : World) (hb : PtsTo eRollRoll w x.b 0 (x.rv m)) (h : decide (¬ (splitS m).end_ = 0) = a ∧ decide ((splitS m).end_ = 1) = b) : Calls Tryz.prog 15 #[.pointer (some ⟨x.b, 0, none⟩), nilIf.v] w (RetV w (.tuple #[.bool a, .bool b, I 0])) := by
  obtain ⟨rfl, rfl⟩ := h
  exact over_ok x.b x.q.b (x.rv m) w hb rfl
theorem co_drops {K : Ctx} {L : List Res} {o : OV} (w : World) (I : WInv K L w) (h : OwnS o.v iE [1] 3 ∈ L) : ConfAt w ⟨o, nilSl, nilSl, nilSl, nilSl, 2⟩ dropsL := ⟨isSl_own h w I, IsSl.nil _ w, IsSl.nil _ w, IsSl.nil _ w, IsSl.nil _ w⟩
theorem co_sends {K : Ctx} {L : List Res} {o1 o2 : OV} (w : World) (I : WInv K L w) (h : OwnS o1.v iE [1] 3 ∈ L) (h2 : OwnS o2.v eRule [allU] 113 ∈ L) : ConfAt w ⟨o1, nilSl, o2, nilSl, nilSl, 2⟩ sendsL := ⟨isSl_own h w I, IsSl.nil _ w, isSl_own h2 w I, IsSl.nil _ w, IsSl.nil _ w⟩
theorem names31 {l : CL} (h : l.us.all (fun x => decide (x.name.size ≤ 16)) && l.ms.all (fun x => decide (x.name.size ≤ 16)) && l.xs.all (fun x => decide (x.name.size ≤ 16)) = true) : l.Names := by
  simp only [Bool.and_eq_true, List.all_eq_true, decide_eq_true_iff] at h
  exact ⟨fun x hx => by have := h.1.1 x hx; omega, fun x hx => by have := h.1.2 x hx; omega, fun x hx => by have := h.2 x hx; omega⟩
theorem dropsN : dropsL.Names := names31 (by decide +kernel)
theorem sendsN : sendsL.Names := names31 (by decide +kernel)
theorem dropsZ : dropsL.n ≤ 4611686018427387904 := by decide +kernel
theorem sendsZ : sendsL.n ≤ 4611686018427387904 := by decide +kernel
def ss1 : List SStage := [⟨50, 2, 0⟩, ⟨100, 1, 0⟩]
def ss2 : List SStage := [⟨50, 2, 0⟩]
theorem e1 : rollE dropsL sendsL 2 2 ss1 = 0 := by decide +kernel
theorem e2 : rollE sendsL dropsL 2 2 ss2 = 0 := by decide +kernel
theorem pV1 : passV dropsL sendsL 2 2 1 ss1 0 (oneB false) = ⟨2, -1, -1, -1, -1⟩ := by decide +kernel
theorem pV2 : passV dropsL sendsL 2 2 1 ss1 0 (oneB true) = ⟨3, 1, 0, -1, -1⟩ := by decide +kernel
theorem pV3 : passV sendsL dropsL 2 2 1 ss2 0 (oneB true) = ⟨2, -1, -1, -1, -1⟩ := by decide +kernel
theorem pB1 : passB ss1 0 (oneB false) = false := by decide +kernel
theorem pB2 : passB ss1 0 (oneB true) = true := by decide +kernel
theorem pB3 : passB ss2 0 (oneB true) = true := by decide +kernel
theorem pW1 : passW sendsL 2 1 ss1 0 (oneB false) = 0 := by decide +kernel
theorem pW2 : passW sendsL 2 1 ss1 0 (oneB true) = 2097152 := by decide +kernel
theorem pW3 : passW dropsL 2 1 ss2 0 (oneB true) = 2251799815782401 := by decide +kernel
theorem pE1 (b : Bool) : pE (oneB b) = 0 := by cases b <;> decide +kernel
end Go.Proofs.YtakmoeladkajdaaGreat
namespace Go.Proofs.YtakmoeladkajdaaGreat
open Go Go.Gx Go.Proofs.YtakmoeladkajdaaGreat.Tri Go.Proofs.YtakmoeladkajdaaGreat.Oc
theorem en18 : Gx.Enters Tryz.prog 18 := Gx.Enters.mk' zk
theorem en16 : Gx.Enters Tryz.prog 16 := Gx.Enters.mk' zk
theorem en17 : Gx.Enters Tryz.prog 17 := Gx.Enters.mk' zk
theorem en8 : Gx.Enters Tryz.prog 8 := Gx.Enters.mk' zk
theorem z65 : (Tryz.prog.info? 65).bind (·.zero) = some (eJob.val eJob.zero) := by kernel_rfl
theorem en13 : Gx.Enters Tryz.prog 13 := Gx.Enters.mk' zk
theorem en14 : Gx.Enters Tryz.prog 14 := Gx.Enters.mk' zk
theorem en15 : Gx.Enters Tryz.prog 15 := Gx.Enters.mk' zk
set_option maxRecDepth 8000 in
theorem works_ok (w : World) : Calls Tryz.prog 10 #[] w (RetV w (.bool true)) := by
  refine en0 144 Tryz.func10 ?_
  refine sg (co (Ev.assign (.c (v := .bool false) rfl)) ?_)
  refine nP (sg (cons (callo en18 (.cons (.c (v := .bool true) rfl) .nil) (fun w I => one_ok true w) (fun v1 => ?_))))
  refine cons (callo en18 (.cons (.c (v := .bool false) rfl) .nil) (fun w I => one_ok false w) (fun v2 => ?_))
  refine asn rfl (asn rfl (nP (sg (cons (calln (X := OV) (fun _ => True) (fun o => eConf.val ⟨o, nilSl, nilSl, nilSl, nilSl, 2⟩) (fun o => [OwnS o.v iE [1] 3]) en16 .nil (fun w I => drops_ok w) (fun dd _ => ?_))))))
  refine cons (calln (X := OV × OV) (fun _ => True) (fun o => eConf.val ⟨o.1, nilSl, o.2, nilSl, nilSl, 2⟩) (fun o => [OwnS o.1.v iE [1] 3, OwnS o.2.v eRule [allU] 113]) en17 .nil (fun w I => sends_ok w) (fun sd _ => ?_))
  refine co (Ev.buildS (fs := _) (places := [(0, 1), (1, 1), (2, 1)]) z37 rfl Tryz.underlying37 zk (.cons (.c (v := I 50) rfl) (.cons (.c (v := U64 2) rfl) .nil)) (Fills.cons SStage.l_parts rfl (Fills.cons SStage.l_wait rfl Fills.nil))) ?_
  refine co (Ev.buildS (fs := _) (places := [(0, 1), (1, 1), (2, 1)]) z37 rfl Tryz.underlying37 zk (.cons (.c (v := I 100) rfl) (.cons (.c (v := U64 1) rfl) .nil)) (Fills.cons SStage.l_parts rfl (Fills.cons SStage.l_wait rfl Fills.nil))) ?_
  refine cons (buildSlice (E := eStage) Tryz.underlying29 ty37 z37 (.cons (.t rfl) (.cons (.t rfl) .nil)) rfl rfl (fun v3 => ?_))
  refine cons (calln (X := RX) (NewJ dropsL sendsL 2 2 ss1) (fun x => .tuple #[.pointer (some ⟨x.b, 0, none⟩), I 0]) (fun x => [Var x.b eRollRoll (x.rv 0) 58, x.r, OwnS x.sv.v eStage ss1 37]) en8 (.cons (.t rfl) (.cons (.t rfl) (.cons (.t rfl) .nil))) (fun w I => new_good (co_drops w I zm) (co_sends w I zm zm) (isSl_own (xs := ss1) zm w I) dropsN sendsN dropsZ sendsZ (by decide) rfl rfl e1) (fun x1 hx1 => ?_))
  refine mv rfl (co (Ev.extract (.t rfl) rfl) (co (Ev.extract (.t rfl) rfl) (asn rfl (asn rfl (nP (seq (sg (mv rfl (co (Ev.neq_i (.t rfl) (.c (v := I 0) rfl)) ?_)))))))))
  refine nP (condF rfl (rfl) ?_)
  refine skip (pN (sg (mv rfl (mv rfl (co (Ev.buildS (fs := _) (places := [(0, 1), (1, 1), (2, 1)]) z65 rfl Tryz.underlying65 zk (.cons (.c (v := I 1) rfl) (.cons (.t rfl) .nil)) (Fills.cons SJob.l_in_ rfl (Fills.cons SJob.l_packet rfl Fills.nil))) ?_)))))
  refine cons (callr (X := Unit) (fun _ => True) (fun _ => .tuple #[eVerdict.val (⟨2, -1, -1, -1, -1⟩ : SVerdict), .bool false, I 0]) (r := Var x1.b eRollRoll (x1.rv 0) 58) (r' := fun _ => Var x1.b eRollRoll (x1.rv 0) 58) (fun _ => zu) zm en13 (.cons (.t rfl) (.cons (.c (v := Go.Value.nilIface) rfl) (.cons (.t rfl) .nil))) (fun w I => pass_nil x1 dropsL sendsL 2 2 ss1 0 _ (oneB false) _ _ _ _ w (am w I) (roll_keep I zr zm zm hx1) (own_keep (v := v2.v) I zr zm) hx1.p hx1.q (by decide) (by decide) pV1 pB1 pW1 (pE1 _)) (fun _ _ => ?_))
  refine mv rfl (co (Ev.extract (.t rfl) rfl) (co (Ev.extract (.t rfl) rfl) (co (Ev.extract (.t rfl) rfl) (cons (alloc z60 (fun b4 => ?_))))))
  refine cons (stv ty60 (Lens.id _) (.t rfl) (.t rfl) ?_)
  refine asn rfl (asn rfl (nP (sg (mv rfl (mv rfl (co (Ev.buildS (fs := _) (places := [(0, 1), (1, 1), (2, 1)]) z65 rfl Tryz.underlying65 zk (.cons (.c (v := I 1) rfl) (.cons (.t rfl) .nil)) (Fills.cons SJob.l_in_ rfl (Fills.cons SJob.l_packet rfl Fills.nil))) ?_))))))
  refine cons (callr (X := Unit) (fun _ => True) (fun _ => .tuple #[eVerdict.val (⟨3, 1, 0, -1, -1⟩ : SVerdict), .bool true, I 0]) (r := Var x1.b eRollRoll (x1.rv 0) 58) (r' := fun _ => Var x1.b eRollRoll (x1.rv 2097152) 58) (fun _ => zu) zm en13 (.cons (.t rfl) (.cons (.c (v := Go.Value.nilIface) rfl) (.cons (.t rfl) .nil))) (fun w I => pass_nil x1 dropsL sendsL 2 2 ss1 0 _ (oneB true) _ _ _ _ w (am w I) (roll_keep I zr zm zm hx1) (own_keep (v := v1.v) I zr zm) hx1.p hx1.q (by decide) (by decide) pV2 pB2 pW2 (pE1 _)) (fun _ _ => ?_))
  refine mv rfl (co (Ev.extract (.t rfl) rfl) (co (Ev.extract (.t rfl) rfl) (co (Ev.extract (.t rfl) rfl) (cons (alloc z60 (fun b5 => ?_))))))
  refine cons (stv ty60 (Lens.id _) (.t rfl) (.t rfl) ?_)
  refine asn rfl (asn rfl (nP (sg (mv rfl (cons (callv en14 (.cons (.t rfl) (.cons (.c (v := Go.Value.nilIface) rfl) .nil)) (fun w I => stage_to x1 2097152 0 1 0 w (ptsVar zm (Lens.id _) w I) (by decide +kernel)) ?_))))))
  refine mv rfl (co (Ev.extract (.t rfl) rfl) (co (Ev.extract (.t rfl) rfl) (co (Ev.extract (.t rfl) rfl) (co (Ev.extract (.t rfl) rfl) (asn rfl (asn rfl (asn rfl (asn rfl (nP (sg (cons (calln (X := OV × OV) (fun _ => True) (fun o => eConf.val ⟨o.1, nilSl, o.2, nilSl, nilSl, 2⟩) (fun o => [OwnS o.1.v iE [1] 3, OwnS o.2.v eRule [allU] 113]) en17 .nil (fun w I => sends_ok w) (fun sd _ => ?_)))))))))))))
  refine cons (calln (X := OV) (fun _ => True) (fun o => eConf.val ⟨o, nilSl, nilSl, nilSl, nilSl, 2⟩) (fun o => [OwnS o.v iE [1] 3]) en16 .nil (fun w I => drops_ok w) (fun dd _ => ?_))
  refine co (Ev.buildS (fs := _) (places := [(0, 1), (1, 1), (2, 1)]) z37 rfl Tryz.underlying37 zk (.cons (.c (v := I 50) rfl) (.cons (.c (v := U64 2) rfl) .nil)) (Fills.cons SStage.l_parts rfl (Fills.cons SStage.l_wait rfl Fills.nil))) ?_
  refine cons (buildSlice (E := eStage) Tryz.underlying29 ty37 z37 (.cons (.t rfl) .nil) rfl rfl (fun v6 => ?_))
  refine cons (calln (X := RX) (NewJ sendsL dropsL 2 2 ss2) (fun x => .tuple #[.pointer (some ⟨x.b, 0, none⟩), I 0]) (fun x => [Var x.b eRollRoll (x.rv 0) 58, x.r, OwnS x.sv.v eStage ss2 37]) en8 (.cons (.t rfl) (.cons (.t rfl) (.cons (.t rfl) .nil))) (fun w I => new_good (co_sends w I zm zm) (co_drops w I zm) (isSl_own (xs := ss2) zm w I) sendsN dropsN sendsZ dropsZ (by decide) rfl rfl e2) (fun x2 hx2 => ?_))
  refine mv rfl (co (Ev.extract (.t rfl) rfl) (co (Ev.extract (.t rfl) rfl) (asn rfl (asn rfl (nP (seq (sg (mv rfl (co (Ev.neq_i (.t rfl) (.c (v := I 0) rfl)) ?_)))))))))
  refine nP (condF rfl (rfl) ?_)
  refine skip (pN (sg (mv rfl (mv rfl (co (Ev.buildS (fs := _) (places := [(0, 1), (1, 1), (2, 1)]) z65 rfl Tryz.underlying65 zk (.cons (.c (v := I 1) rfl) (.cons (.t rfl) .nil)) (Fills.cons SJob.l_in_ rfl (Fills.cons SJob.l_packet rfl Fills.nil))) ?_)))))
  refine cons (callr (X := Unit) (fun _ => True) (fun _ => .tuple #[eVerdict.val (⟨2, -1, -1, -1, -1⟩ : SVerdict), .bool true, I 0]) (r := Var x2.b eRollRoll (x2.rv 0) 58) (r' := fun _ => Var x2.b eRollRoll (x2.rv 2251799815782401) 58) (fun _ => zu) zm en13 (.cons (.t rfl) (.cons (.c (v := Go.Value.nilIface) rfl) (.cons (.t rfl) .nil))) (fun w I => pass_nil x2 sendsL dropsL 2 2 ss2 0 _ (oneB true) _ _ _ _ w (am w I) (roll_keep I zr zm zm hx2) (own_keep (v := v1.v) I zr zm) hx2.p hx2.q (by decide) (by decide) pV3 pB3 pW3 (pE1 _)) (fun _ _ => ?_))
  refine mv rfl (co (Ev.extract (.t rfl) rfl) (co (Ev.extract (.t rfl) rfl) (co (Ev.extract (.t rfl) rfl) (cons (alloc z60 (fun b7 => ?_))))))
  refine cons (stv ty60 (Lens.id _) (.t rfl) (.t rfl) ?_)
  refine asn rfl (asn rfl (nP (sg (mv rfl (cons (callv en15 (.cons (.t rfl) (.cons (.c (v := Go.Value.nilIface) rfl) .nil)) (fun w I => over_to x2 2251799815782401 true false w (ptsVar zm (Lens.id _) w I) (by decide +kernel)) ?_))))))
  refine mv rfl (co (Ev.extract (.t rfl) rfl) (co (Ev.extract (.t rfl) rfl) (co (Ev.extract (.t rfl) rfl) (asn rfl (asn rfl (asn rfl (nP (sg (mv rfl (co (Ev.not (.t rfl)) ?_))))))))))
  refine mv rfl (cg rfl rfl (fA 0 (.t rfl)) ?_)
  refine cg rfl rfl (Ev.ldv ty3 (.g rfl id) SVerdict.l_action) ?_
  refine cg rfl rfl (Ev.eql_i (.g rfl id) (.c (v := I 2) rfl)) ?_
  refine co (Ev.pkA (.t rfl) rfl) ?_
  refine mv rfl (cg rfl rfl (Ev.move (.t rfl)) ?_)
  refine cg rfl rfl (Ev.eql_i (.g rfl id) (.c (v := I 0) rfl)) ?_
  refine co (Ev.pkA (.t rfl) rfl) ?_
  refine mv rfl (cg rfl rfl (Ev.move (.t rfl)) ?_)
  refine co (Ev.pkA (.t rfl) rfl) ?_
  refine mv rfl (cg rfl rfl (fA 0 (.t rfl)) ?_)
  refine cg rfl rfl (Ev.ldv ty3 (.g rfl id) SVerdict.l_action) ?_
  refine cg rfl rfl (Ev.eql_i (.g rfl id) (.c (v := I 3) rfl)) ?_
  refine co (Ev.pkA (.t rfl) rfl) ?_
  refine mv rfl (cg rfl rfl (Ev.move (.t rfl)) ?_)
  refine cg rfl rfl (Ev.eql_i (.g rfl id) (.c (v := I 0) rfl)) ?_
  refine co (Ev.pkA (.t rfl) rfl) ?_
  refine mv rfl (cg rfl rfl (Ev.move (.t rfl)) ?_)
  refine cg rfl rfl (Ev.eql_i (.g rfl id) (.c (v := I 0) rfl)) ?_
  refine co (Ev.pkA (.t rfl) rfl) ?_
  refine mv rfl (cg rfl rfl (Ev.move (.t rfl)) ?_)
  refine cg rfl rfl (Ev.eql_u64 (.g rfl id) (.c (v := U64 1) rfl)) ?_
  refine co (Ev.pkA (.t rfl) rfl) ?_
  refine mv rfl (cg rfl rfl (Ev.move (.t rfl)) ?_)
  refine cg rfl rfl (Ev.eql_u64 (.g rfl id) (.c (v := U64 0) rfl)) ?_
  refine co (Ev.pkA (.t rfl) rfl) ?_
  refine mv rfl (cg rfl rfl (Ev.move (.t rfl)) ?_)
  refine cg rfl rfl (Ev.eql_i (.g rfl id) (.c (v := I 0) rfl)) ?_
  refine co (Ev.pkA (.t rfl) rfl) ?_
  refine mv rfl (cg rfl rfl (Ev.move (.t rfl)) ?_)
  refine co (Ev.pkA (.t rfl) rfl) ?_
  refine mv rfl (cg rfl rfl (fA 0 (.t rfl)) ?_)
  refine cg rfl rfl (Ev.ldv ty3 (.g rfl id) SVerdict.l_action) ?_
  refine cg rfl rfl (Ev.eql_i (.g rfl id) (.c (v := I 2) rfl)) ?_
  refine co (Ev.pkA (.t rfl) rfl) ?_
  refine mv rfl (cg rfl rfl (Ev.move (.t rfl)) ?_)
  refine cg rfl rfl (Ev.eql_i (.g rfl id) (.c (v := I 0) rfl)) ?_
  refine co (Ev.pkA (.t rfl) rfl) ?_
  refine mv rfl (cg rfl rfl (Ev.move (.t rfl)) ?_)
  refine co (Ev.pkA (.t rfl) rfl) ?_
  refine mv rfl (cg rfl rfl (Ev.move (.t rfl)) ?_)
  refine cg rfl rfl (Ev.not (.g rfl id)) ?_
  refine co (Ev.pkA (.t rfl) rfl) ?_
  refine mv rfl (cg rfl rfl (Ev.move (.t rfl)) ?_)
  refine cg rfl rfl (Ev.eql_i (.g rfl id) (.c (v := I 0) rfl)) ?_
  refine co (Ev.pkA (.t rfl) rfl) ?_
  refine asn rfl (nP (ret (done rfl (.tmp rfl .nil) (retE ?_))))
  rfl
end Go.Proofs.YtakmoeladkajdaaGreat
namespace Go.Proofs.YtakmoeladkajdaaGreat
open Go Go.Gx Go.Proofs.YtakmoeladkajdaaGreat.Tri Go.Proofs.YtakmoeladkajdaaGreat.Oc
theorem en10 : Gx.Enters Tryz.prog 10 := Gx.Enters.mk' zk
def incN {α : Type} (q : α → α → Bool) (d : Int) (l : List α) (m : List (α × Int)) : Nat → List (α × Int)
  | 0 => m
  | n + 1 => match l[n]? with
    | none => incN q d l m n
    | some x => putL q x ((findV q x (incN q d l m n)).getD 0 + d) (incN q d l m n)
def alikeM {α : Type} (q : α → α → Bool) (l k : List α) : List (α × Int) := incN q (-1) k (incN q 1 l [] l.length) k.length
def alikeB {α : Type} (q : α → α → Bool) (l k : List α) : Bool := (alikeM q l k).all (fun p => decide (p.2 = 0))
def sameB (a b : CL) (d e : Int) : Bool := decide (d = e) && (decide (a.ps = b.ps) && (decide (a.us = b.us) && (alikeB SRoute.eqb a.rs b.rs && (alikeB SMeterConf.eqb a.ms b.ms && alikeB SMirrorConf.eqb a.xs b.xs))))
theorem rport_ok (c : SConf) (l : CL) (p : Int) (w : World) (hc : ConfAt w c l) : Calls Tryz.prog 122 #[eConf.val c, I p] w (RetV w (.bool (portB l p))) := by
  have hle := hc.ps.le
  refine en0 20 Tryz.func122 ?_
  refine sg (cons (box (E := eConf) (.t rfl) (fun b1 => ?_)))
  refine co (Ev.assign (.c (v := .bool false) rfl)) ?_
  refine nP (seq (sg (co (Ev.assign (.c (v := I 0) rfl)) ?_)))
  refine nP (block (lp (X := Int) (fun x : Int => (0 ≤ x ∧ x ≤ l.ps.length) ∧ (∀ k : Nat, k < x → ¬ l.ps.getD k iE.zero = p)) (fun x : Int => [dz, (1, true, I p), (2, true, .pointer (some ⟨b1, 0, none⟩)), (5, true, I x)]) (fun x : Int => [Var b1 eConf c 28]) (fun x : Int => ((l.ps.length : Int) - x).toNat) (0) ⟨?_, ?_⟩ (fun x hx => ?_)))
  · omega
  · intro k h; omega
  obtain ⟨i, rfl⟩ : ∃ y, y = x := ⟨x, rfl⟩
  obtain ⟨hi, hq⟩ : (0 ≤ i ∧ i ≤ l.ps.length) ∧ (∀ k : Nat, k < i → ¬ l.ps.getD k iE.zero = p) := hx
  show Sat _ _ [dz, (1, true, I p), (2, true, .pointer (some ⟨b1, 0, none⟩)), (5, true, I i)] [Var b1 eConf c 28]
  refine seq (sg (mv rfl (co (fA 0 (.t rfl)) ?_)))
  refine co (Ev.ldx c.ports ty22 (.t rfl) SConf.l_ports) ?_
  refine co (Ev.len Tryz.underlying22 (.t rfl) (fun w I => (hc.keep0 I.keeps).ps)) ?_
  refine co (Ev.lss_i (.t rfl) (.t rfl)) ?_
  refine nP ?_
  first | refine condD rfl (fun h0 => ?_) (fun h0 => ?_) | refine cond rfl (fun h0 => ?_) (fun h0 => ?_)
  · try simp only [Gx.nb] at h0
    refine skip (pN (seq (block (sg (co (fA 0 (.t rfl)) ?_)))))
    refine co (Ev.ldx c.ports ty22 (.t rfl) SConf.l_ports) ?_
    refine mv rfl (co (Ev.indexAddr Tryz.underlying22 ty3 (.t rfl) (.t rfl) (fun w I => (hc.keep0 I.keeps).ps) (fun _ => zo)) ?_)
    refine co (Ev.loadS0 ty3 (.t rfl) (fun w I => (hc.keep0 I.keeps).ps) (fun _ => zo)) ?_
    refine mv rfl (co (Ev.eql_i (.t rfl) (.t rfl)) ?_)
    refine nP ?_
    first | refine condD rfl (fun h1 => ?_) (fun h1 => ?_) | refine cond rfl (fun h1 => ?_) (fun h1 => ?_)
    · try simp only [Gx.nb] at h1
      refine sg (co (Ev.assign (.c (v := .bool true) rfl)) ?_)
      refine nP (ret (bR (pR (pR (bR (pR (done rfl (.tmp rfl .nil) (retE ?_))))))))
      have hb : portB l p = true := (portB_iff l p).2 (h1 ▸ getD_in _ _ _ (by omega))
      rw [hb]; rfl
    · try simp only [Gx.nb] at h1
      refine skip (bN (pN (region (mv rfl (co (Ev.add_i (.t rfl) (.c (v := I 1) rfl) (fun _ => zo)) ?_)))))
      refine asn rfl (nP (nx (X := Int) (i + 1) ⟨?_, ?_⟩ ?_))
      · try dsimp only
        omega
      · try dsimp only
        intro k h
        by_cases e : (k : Int) < i
        · exact hq k e
        · obtain rfl : k = i.toNat := by omega
          exact h1
      · try dsimp only
        omega
  · try simp only [Gx.nb] at h0
    refine exit (pX (pX (bX (pN (sg (co (Ev.assign (.c (v := .bool false) rfl)) ?_))))))
    refine nP (ret (done rfl (.tmp rfl .nil) (retE ?_)))
    have hb : portB l p = false := by
      rw [Bool.eq_false_iff]
      intro h
      obtain ⟨k, hk, e⟩ := List.mem_iff_getElem.1 ((portB_iff l p).1 h)
      exact hq k (by omega) (by simp [List.getD, hk, e])
    rw [hb]; rfl
theorem rmeter_ix (c : SConf) (l : CL) (a : ByteArray) (w : World) (hc : ConfAt w c l) : Calls Tryz.prog 127 #[eConf.val c, sE.val a] w (RetV w (I (idxF (fun x => decide (x.name = a)) l.ms))) := by
  have hle := hc.ms.le
  refine en0 22 Tryz.func127 ?_
  refine sg (cons (box (E := eConf) (.t rfl) (fun b1 => ?_)))
  refine co (Ev.assign (.c (v := I 0) rfl)) ?_
  refine nP (seq (sg (co (Ev.assign (.c (v := I 0) rfl)) ?_)))
  refine nP (block (lp (X := Int) (fun x : Int => (0 ≤ x ∧ x ≤ l.ms.length) ∧ (∀ k : Nat, k < x → (fun x => decide (x.name = a)) (l.ms.getD k eMeterConf.zero) = false)) (fun x : Int => [dz, (1, true, sE.val a), (2, true, .pointer (some ⟨b1, 0, none⟩)), (5, true, I x)]) (fun x : Int => [Var b1 eConf c 28]) (fun x : Int => ((l.ms.length : Int) - x).toNat) (0) ⟨?_, ?_⟩ (fun x hx => ?_)))
  · omega
  · intro k h; omega
  obtain ⟨i, rfl⟩ : ∃ y, y = x := ⟨x, rfl⟩
  obtain ⟨hi, hq⟩ : (0 ≤ i ∧ i ≤ l.ms.length) ∧ (∀ k : Nat, k < i → (fun x => decide (x.name = a)) (l.ms.getD k eMeterConf.zero) = false) := hx
  show Sat _ _ [dz, (1, true, sE.val a), (2, true, .pointer (some ⟨b1, 0, none⟩)), (5, true, I i)] [Var b1 eConf c 28]
  refine seq (sg (mv rfl (co (fA 3 (.t rfl)) ?_)))
  refine co (Ev.ldx c.meters ty25 (.t rfl) SConf.l_meters) ?_
  refine co (Ev.len Tryz.underlying25 (.t rfl) (fun w I => (hc.keep0 I.keeps).ms)) ?_
  refine co (Ev.lss_i (.t rfl) (.t rfl)) ?_
  refine nP ?_
  first | refine condD rfl (fun h0 => ?_) (fun h0 => ?_) | refine cond rfl (fun h0 => ?_) (fun h0 => ?_)
  · try simp only [Gx.nb] at h0
    refine skip (pN (seq (block (sg (co (fA 3 (.t rfl)) ?_)))))
    refine co (Ev.ldx c.meters ty25 (.t rfl) SConf.l_meters) ?_
    refine mv rfl (co (Ev.indexAddr Tryz.underlying25 ty134 (.t rfl) (.t rfl) (fun w I => (hc.keep0 I.keeps).ms) (fun _ => zo)) ?_)
    refine co (Ev.fieldAddrS (o := 0) (i := i) (.t rfl) (fun w I => (hc.keep0 I.keeps).ms) (fun _ => zo) zk) ?_
    refine co (Ev.loadS ty9 SMeterConf.l_name rfl (.t rfl) (fun w I => (hc.keep0 I.keeps).ms) (fun _ => zo)) ?_
    refine mv rfl (co (Ev.eql_s (.t rfl) (.t rfl)) ?_)
    refine nP ?_
    first | refine condD rfl (fun h1 => ?_) (fun h1 => ?_) | refine cond rfl (fun h1 => ?_) (fun h1 => ?_)
    · refine sg (mv rfl (asn rfl (nP (ret (bR (pR (pR (bR (pR (done rfl (.tmp rfl .nil) (retE ?_)))))))))))
      rw [idx_at (p := fun x => decide (x.name = a)) eMeterConf.zero (by omega) hq (by first | exact h1 | exact decide_eq_true h1)]; rfl
    · refine skip (bN (pN (region (mv rfl (co (Ev.add_i (.t rfl) (.c (v := I 1) rfl) (fun _ => zo)) ?_)))))
      refine asn rfl (nP (nx (X := Int) (i + 1) ⟨?_, ?_⟩ ?_))
      · try dsimp only
        omega
      · try dsimp only
        intro k h
        by_cases e : (k : Int) < i
        · exact hq k e
        · obtain rfl : k = i.toNat := by omega
          first | exact h1 | exact decide_eq_false h1
      · try dsimp only
        omega
  · try simp only [Gx.nb] at h0
    refine exit (pX (pX (bX (pN (sg (co (Ev.assign (.c (v := I (-1)) rfl)) ?_))))))
    refine nP (ret (done rfl (.tmp rfl .nil) (retE ?_)))
    rw [idx_none (p := fun x => decide (x.name = a)) eMeterConf.zero (fun k hk => hq k (by omega))]; rfl
theorem rmirror_ix (c : SConf) (l : CL) (a : ByteArray) (w : World) (hc : ConfAt w c l) : Calls Tryz.prog 128 #[eConf.val c, sE.val a] w (RetV w (I (idxF (fun x => decide (x.name = a)) l.xs))) := by
  have hle := hc.xs.le
  refine en0 22 Tryz.func128 ?_
  refine sg (cons (box (E := eConf) (.t rfl) (fun b1 => ?_)))
  refine co (Ev.assign (.c (v := I 0) rfl)) ?_
  refine nP (seq (sg (co (Ev.assign (.c (v := I 0) rfl)) ?_)))
  refine nP (block (lp (X := Int) (fun x : Int => (0 ≤ x ∧ x ≤ l.xs.length) ∧ (∀ k : Nat, k < x → (fun x => decide (x.name = a)) (l.xs.getD k eMirrorConf.zero) = false)) (fun x : Int => [dz, (1, true, sE.val a), (2, true, .pointer (some ⟨b1, 0, none⟩)), (5, true, I x)]) (fun x : Int => [Var b1 eConf c 28]) (fun x : Int => ((l.xs.length : Int) - x).toNat) (0) ⟨?_, ?_⟩ (fun x hx => ?_)))
  · omega
  · intro k h; omega
  obtain ⟨i, rfl⟩ : ∃ y, y = x := ⟨x, rfl⟩
  obtain ⟨hi, hq⟩ : (0 ≤ i ∧ i ≤ l.xs.length) ∧ (∀ k : Nat, k < i → (fun x => decide (x.name = a)) (l.xs.getD k eMirrorConf.zero) = false) := hx
  show Sat _ _ [dz, (1, true, sE.val a), (2, true, .pointer (some ⟨b1, 0, none⟩)), (5, true, I i)] [Var b1 eConf c 28]
  refine seq (sg (mv rfl (co (fA 4 (.t rfl)) ?_)))
  refine co (Ev.ldx c.mirrors ty26 (.t rfl) SConf.l_mirrors) ?_
  refine co (Ev.len Tryz.underlying26 (.t rfl) (fun w I => (hc.keep0 I.keeps).xs)) ?_
  refine co (Ev.lss_i (.t rfl) (.t rfl)) ?_
  refine nP ?_
  first | refine condD rfl (fun h0 => ?_) (fun h0 => ?_) | refine cond rfl (fun h0 => ?_) (fun h0 => ?_)
  · try simp only [Gx.nb] at h0
    refine skip (pN (seq (block (sg (co (fA 4 (.t rfl)) ?_)))))
    refine co (Ev.ldx c.mirrors ty26 (.t rfl) SConf.l_mirrors) ?_
    refine mv rfl (co (Ev.indexAddr Tryz.underlying26 ty136 (.t rfl) (.t rfl) (fun w I => (hc.keep0 I.keeps).xs) (fun _ => zo)) ?_)
    refine co (Ev.fieldAddrS (o := 0) (i := i) (.t rfl) (fun w I => (hc.keep0 I.keeps).xs) (fun _ => zo) zk) ?_
    refine co (Ev.loadS ty9 SMirrorConf.l_name rfl (.t rfl) (fun w I => (hc.keep0 I.keeps).xs) (fun _ => zo)) ?_
    refine mv rfl (co (Ev.eql_s (.t rfl) (.t rfl)) ?_)
    refine nP ?_
    first | refine condD rfl (fun h1 => ?_) (fun h1 => ?_) | refine cond rfl (fun h1 => ?_) (fun h1 => ?_)
    · refine sg (mv rfl (asn rfl (nP (ret (bR (pR (pR (bR (pR (done rfl (.tmp rfl .nil) (retE ?_)))))))))))
      rw [idx_at (p := fun x => decide (x.name = a)) eMirrorConf.zero (by omega) hq (by first | exact h1 | exact decide_eq_true h1)]; rfl
    · refine skip (bN (pN (region (mv rfl (co (Ev.add_i (.t rfl) (.c (v := I 1) rfl) (fun _ => zo)) ?_)))))
      refine asn rfl (nP (nx (X := Int) (i + 1) ⟨?_, ?_⟩ ?_))
      · try dsimp only
        omega
      · try dsimp only
        intro k h
        by_cases e : (k : Int) < i
        · exact hq k e
        · obtain rfl : k = i.toNat := by omega
          first | exact h1 | exact decide_eq_false h1
      · try dsimp only
        omega
  · try simp only [Gx.nb] at h0
    refine exit (pX (pX (bX (pN (sg (co (Ev.assign (.c (v := I (-1)) rfl)) ?_))))))
    refine nP (ret (done rfl (.tmp rfl .nil) (retE ?_)))
    rw [idx_none (p := fun x => decide (x.name = a)) eMirrorConf.zero (fun k hk => hq k (by omega))]; rfl
theorem rrule_ix (c : SConf) (l : CL) (a : ByteArray) (w : World) (hc : ConfAt w c l) : Calls Tryz.prog 125 #[eConf.val c, sE.val a] w (RetV w (I (idxF (fun x => decide (x.name = a)) l.us))) := by
  have hle := hc.us.le
  refine en0 22 Tryz.func125 ?_
  refine sg (cons (box (E := eConf) (.t rfl) (fun b1 => ?_)))
  refine co (Ev.assign (.c (v := I 0) rfl)) ?_
  refine nP (seq (sg (co (Ev.assign (.c (v := I 0) rfl)) ?_)))
  refine nP (block (lp (X := Int) (fun x : Int => (0 ≤ x ∧ x ≤ l.us.length) ∧ (∀ k : Nat, k < x → (fun x => decide (x.name = a)) (l.us.getD k eRule.zero) = false)) (fun x : Int => [dz, (1, true, sE.val a), (2, true, .pointer (some ⟨b1, 0, none⟩)), (5, true, I x)]) (fun x : Int => [Var b1 eConf c 28]) (fun x : Int => ((l.us.length : Int) - x).toNat) (0) ⟨?_, ?_⟩ (fun x hx => ?_)))
  · omega
  · intro k h; omega
  obtain ⟨i, rfl⟩ : ∃ y, y = x := ⟨x, rfl⟩
  obtain ⟨hi, hq⟩ : (0 ≤ i ∧ i ≤ l.us.length) ∧ (∀ k : Nat, k < i → (fun x => decide (x.name = a)) (l.us.getD k eRule.zero) = false) := hx
  show Sat _ _ [dz, (1, true, sE.val a), (2, true, .pointer (some ⟨b1, 0, none⟩)), (5, true, I i)] [Var b1 eConf c 28]
  refine seq (sg (mv rfl (co (fA 2 (.t rfl)) ?_)))
  refine co (Ev.ldx c.rules ty24 (.t rfl) SConf.l_rules) ?_
  refine co (Ev.len Tryz.underlying24 (.t rfl) (fun w I => (hc.keep0 I.keeps).us)) ?_
  refine co (Ev.lss_i (.t rfl) (.t rfl)) ?_
  refine nP ?_
  first | refine condD rfl (fun h0 => ?_) (fun h0 => ?_) | refine cond rfl (fun h0 => ?_) (fun h0 => ?_)
  · try simp only [Gx.nb] at h0
    refine skip (pN (seq (block (sg (co (fA 2 (.t rfl)) ?_)))))
    refine co (Ev.ldx c.rules ty24 (.t rfl) SConf.l_rules) ?_
    refine mv rfl (co (Ev.indexAddr Tryz.underlying24 ty113 (.t rfl) (.t rfl) (fun w I => (hc.keep0 I.keeps).us) (fun _ => zo)) ?_)
    refine co (Ev.fieldAddrS (o := 0) (i := i) (.t rfl) (fun w I => (hc.keep0 I.keeps).us) (fun _ => zo) zk) ?_
    refine co (Ev.loadS ty9 SRule.l_name rfl (.t rfl) (fun w I => (hc.keep0 I.keeps).us) (fun _ => zo)) ?_
    refine mv rfl (co (Ev.eql_s (.t rfl) (.t rfl)) ?_)
    refine nP ?_
    first | refine condD rfl (fun h1 => ?_) (fun h1 => ?_) | refine cond rfl (fun h1 => ?_) (fun h1 => ?_)
    · refine sg (mv rfl (asn rfl (nP (ret (bR (pR (pR (bR (pR (done rfl (.tmp rfl .nil) (retE ?_)))))))))))
      rw [idx_at (p := fun x => decide (x.name = a)) eRule.zero (by omega) hq (by first | exact h1 | exact decide_eq_true h1)]; rfl
    · refine skip (bN (pN (region (mv rfl (co (Ev.add_i (.t rfl) (.c (v := I 1) rfl) (fun _ => zo)) ?_)))))
      refine asn rfl (nP (nx (X := Int) (i + 1) ⟨?_, ?_⟩ ?_))
      · try dsimp only
        omega
      · try dsimp only
        intro k h
        by_cases e : (k : Int) < i
        · exact hq k e
        · obtain rfl : k = i.toNat := by omega
          first | exact h1 | exact decide_eq_false h1
      · try dsimp only
        omega
  · try simp only [Gx.nb] at h0
    refine exit (pX (pX (bX (pN (sg (co (Ev.assign (.c (v := I (-1)) rfl)) ?_))))))
    refine nP (ret (done rfl (.tmp rfl .nil) (retE ?_)))
    rw [idx_none (p := fun x => decide (x.name = a)) eRule.zero (fun k hk => hq k (by omega))]; rfl
theorem rroute_ix (c : SConf) (l : CL) (a : SPrefix) (w : World) (hc : ConfAt w c l) : Calls Tryz.prog 123 #[eConf.val c, ePrefix.val a] w (RetV w (I (idxF (fun x => SPrefix.eqb x.to_ a) l.rs))) := by
  have hle := hc.rs.le
  refine en0 22 Tryz.func123 ?_
  refine sg (cons (box (E := eConf) (.t rfl) (fun b1 => ?_)))
  refine cons (box (E := ePrefix) (.t rfl) (fun b2 => ?_))
  refine co (Ev.assign (.c (v := I 0) rfl)) ?_
  refine nP (seq (sg (co (Ev.assign (.c (v := I 0) rfl)) ?_)))
  refine nP (block (lp (X := Int) (fun x : Int => (0 ≤ x ∧ x ≤ l.rs.length) ∧ (∀ k : Nat, k < x → (fun x => SPrefix.eqb x.to_ a) (l.rs.getD k eRoute.zero) = false)) (fun x : Int => [dz, (3, true, .pointer (some ⟨b2, 0, none⟩)), (2, true, .pointer (some ⟨b1, 0, none⟩)), (5, true, I x)]) (fun x : Int => [Var b2 ePrefix a 109, Var b1 eConf c 28]) (fun x : Int => ((l.rs.length : Int) - x).toNat) (0) ⟨?_, ?_⟩ (fun x hx => ?_)))
  · omega
  · intro k h; omega
  obtain ⟨i, rfl⟩ : ∃ y, y = x := ⟨x, rfl⟩
  obtain ⟨hi, hq⟩ : (0 ≤ i ∧ i ≤ l.rs.length) ∧ (∀ k : Nat, k < i → (fun x => SPrefix.eqb x.to_ a) (l.rs.getD k eRoute.zero) = false) := hx
  show Sat _ _ [dz, (3, true, .pointer (some ⟨b2, 0, none⟩)), (2, true, .pointer (some ⟨b1, 0, none⟩)), (5, true, I i)] [Var b2 ePrefix a 109, Var b1 eConf c 28]
  refine seq (sg (mv rfl (co (fA 1 (.t rfl)) ?_)))
  refine co (Ev.ldx c.routes ty23 (.t rfl) SConf.l_routes) ?_
  refine co (Ev.len Tryz.underlying23 (.t rfl) (fun w I => (hc.keep0 I.keeps).rs)) ?_
  refine co (Ev.lss_i (.t rfl) (.t rfl)) ?_
  refine nP ?_
  first | refine condD rfl (fun h0 => ?_) (fun h0 => ?_) | refine cond rfl (fun h0 => ?_) (fun h0 => ?_)
  · try simp only [Gx.nb] at h0
    refine skip (pN (seq (block (seq (draw' zk ?_)))))
    refine tk 0 rfl (fA 1 (.t rfl)) ?_
    refine tk 1 rfl (Ev.ldx c.routes ty23 (.t rfl) SConf.l_routes) ?_
    refine tk 2 rfl (Ev.move (.t rfl)) ?_
    refine tk 3 rfl (Ev.indexAddr Tryz.underlying23 ty172 (.t rfl) (.t rfl) (fun w I => (hc.keep0 I.keeps).rs) (fun _ => zo)) ?_
    refine tk 4 rfl (Ev.fieldAddrS (o := 0) (i := i) (.t rfl) (fun w I => (hc.keep0 I.keeps).rs) (fun _ => zo) zk) ?_
    refine tk 5 rfl (Ev.loadS ty109 SRoute.l_to_ rfl (.t rfl) (fun w I => (hc.keep0 I.keeps).rs) (fun _ => zo)) ?_
    refine tk 6 rfl (Ev.ldx a ty109 (.t rfl) (Lens.id _)) ?_
    refine tk 7 rfl (Ev.eqlS rfl eqok109 rfl zk (.t rfl) (.t rfl)) ?_
    refine ovr (pN ?_)
    first | refine condD rfl (fun h1 => ?_) (fun h1 => ?_) | refine cond rfl (fun h1 => ?_) (fun h1 => ?_)
    · refine sg (mv rfl (asn rfl (nP (ret (bR (pR (pR (bR (pR (done rfl (.tmp rfl .nil) (retE ?_)))))))))))
      rw [idx_at (p := fun x => SPrefix.eqb x.to_ a) eRoute.zero (by omega) hq (by first | exact h1 | exact decide_eq_true h1)]; rfl
    · refine skip (bN (pN (region (mv rfl (co (Ev.add_i (.t rfl) (.c (v := I 1) rfl) (fun _ => zo)) ?_)))))
      refine asn rfl (nP (nx (X := Int) (i + 1) ⟨?_, ?_⟩ ?_))
      · try dsimp only
        omega
      · try dsimp only
        intro k h
        by_cases e : (k : Int) < i
        · exact hq k e
        · obtain rfl : k = i.toNat := by omega
          first | exact h1 | exact decide_eq_false h1
      · try dsimp only
        omega
  · try simp only [Gx.nb] at h0
    refine exit (pX (pX (bX (pN (sg (co (Ev.assign (.c (v := I (-1)) rfl)) ?_))))))
    refine nP (ret (done rfl (.tmp rfl .nil) (retE ?_)))
    rw [idx_none (p := fun x => SPrefix.eqb x.to_ a) eRoute.zero (fun k hk => hq k (by omega))]; rfl
theorem str_get {s : ByteArray} {i : Nat} (h : i < s.size) : s[i]? = some (s.get! i) := by
  have h2 : s.get! i = s[i] := by
    cases s with
    | mk bs =>
      show bs[i]! = bs[i]
      exact getElem!_pos bs i h
  rw [h2]
  exact getElem?_pos s i h
def nameU (c : UInt8) (i : Int) : Bool := (decide (97 ≤ c) && decide (c ≤ 122)) || (!decide (i = 0) && (((decide (48 ≤ c) && decide (c ≤ 57)) || decide (c = 45)) || decide (c = 95)))
theorem nameU_eq (c : UInt8) {i : Int} (h : 0 ≤ i) : nameU c i = nameC c.toNat i := by
  have key : ∀ n : Fin 256, (decide (97 ≤ UInt8.ofNat n.val) = decide (97 ≤ (n.val : Int))) ∧ (decide (UInt8.ofNat n.val ≤ 122) = decide ((n.val : Int) ≤ 122)) ∧ (decide (48 ≤ UInt8.ofNat n.val) = decide (48 ≤ (n.val : Int))) ∧ (decide (UInt8.ofNat n.val ≤ 57) = decide ((n.val : Int) ≤ 57)) ∧ (decide (UInt8.ofNat n.val = 45) = decide ((n.val : Int) = 45)) ∧ (decide (UInt8.ofNat n.val = 95) = decide ((n.val : Int) = 95)) := by decide +kernel
  obtain ⟨k1, k2, k3, k4, k5, k6⟩ := key ⟨c.toNat, c.toNat_lt⟩
  simp only [UInt8.ofNat_toNat] at k1 k2 k3 k4 k5 k6
  unfold nameU nameC
  rw [k1, k2, k3, k4, k5, k6]
  have e : (!decide (i = 0)) = decide (0 < i) := by
    by_cases h0 : i = 0
    · simp [h0]
    · have : 0 < i := by omega
      simp [h0, this]
  rw [e]
theorem name_key : ∀ A B C : Bool, (!A && (B || !C)) = !(A || (!B && C)) := by decide
theorem nameB_no {s : ByteArray} {i : Nat} (h : i < s.size) (hb : nameC (s.get! i).toNat i = false) : nameB s = false := by
  unfold nameB
  have : (List.range s.size).all (fun k => nameC (s.get! k).toNat k) = false := List.all_eq_false.2 ⟨i, List.mem_range.2 h, by simp [hb]⟩
  rw [this, Bool.and_false]
theorem nameB_yes {s : ByteArray} (h0 : 1 ≤ s.size ∧ s.size ≤ 16) (hq : ∀ k, k < s.size → nameC (s.get! k).toNat k = true) : nameB s = true := by
  have h : (decide (s.size = 0) || decide (16 < s.size)) = false := by rw [Bool.or_eq_false_iff, decide_eq_false_iff_not, decide_eq_false_iff_not]; omega
  unfold nameB
  rw [h]
  exact List.all_eq_true.2 fun k hk => hq k (List.mem_range.1 hk)
theorem nameB_len {s : ByteArray} (h : s.size < 1 ∨ 16 < s.size) : nameB s = false := by
  have h : (decide (s.size = 0) || decide (16 < s.size)) = true := by rw [Bool.or_eq_true, decide_eq_true_eq, decide_eq_true_eq]; omega
  unfold nameB
  rw [h]
  rfl
theorem u8_mod2 (y : UInt8) : y % 2 = y &&& 1 := by
  apply UInt8.toNat_inj.1
  rw [UInt8.toNat_and, UInt8.toNat_mod]
  have e : UInt8.toNat 1 = 1 := rfl
  have e2 : UInt8.toNat 2 = 2 := rfl
  rw [e, e2, Nat.and_one_is_mod]
theorem checkA_bytes (a : SAddr) : checkA a = 0 ↔ ∀ k : Nat, wd a / 8 ≤ k → k < 16 → a.b.toList.getD k 0 = 0 := by
  have hw : wd a = 32 ∨ wd a = 128 := by unfold wd; cases a.v6 <;> simp
  rw [checkA_zero]
  constructor
  · intro h k h1 h2
    have hm := (mk1_iff (a.b.toList.getD k 0) 0).2 (fun j hj _ => by
      rw [← bitU_at _ _ _ hj]
      exact h _ (by omega) (by omega))
    rw [← hm]
    rfl
  · intro h i h1 h2
    have e : i = 8 * ((i / 8).toNat : Int) + ((i % 8).toNat : Int) := by omega
    rw [e, bitU_at _ _ _ (by omega), h _ (by omega) (by omega)]
    have : ∀ j : Fin 8, bitOf 0 j.val = 0 := by decide
    exact this ⟨(i % 8).toNat, by omega⟩
def rooms : List Int := [2, 4, 8, 16, 32, 64, 128, 256, 512, 1024]
theorem roomB_iff (n : Int) : roomB n = true ↔ n ∈ rooms := by
  have key : ∀ m : Fin 1025, decide (2 ≤ m.val ∧ m.val ≤ 1024 ∧ m.val &&& (m.val - 1) = 0) = decide ((m.val : Int) ∈ rooms) := by decide +kernel
  unfold roomB
  rw [decide_eq_true_iff]
  by_cases h : 0 ≤ n ∧ n ≤ 1024
  · have h2 := key ⟨n.toNat, by omega⟩
    have e : ((n.toNat : Nat) : Int) = n := by omega
    simp only [e] at h2
    rw [Bool.eq_iff_iff, decide_eq_true_iff, decide_eq_true_iff] at h2
    rw [← h2]
    constructor
    · rintro ⟨h3, h4, h5⟩
      exact ⟨by omega, by omega, h5⟩
    · rintro ⟨h3, h4, h5⟩
      exact ⟨by omega, by omega, h5⟩
  · constructor
    · rintro ⟨h3, h4, h5⟩
      omega
    · intro h3
      have : ∀ x ∈ rooms, 0 ≤ x ∧ x ≤ 1024 := by decide
      have := this n h3
      omega
theorem rname_ok (s : ByteArray) (w : World) (hs : s.size ≤ 9223372036854775807) : Calls Tryz.prog 124 #[.string s] w (RetV w (.bool (nameB s))) := by
  refine en0 54 Tryz.func124 ?_
  refine sg (co (Ev.assign (.c (v := .bool false) rfl)) ?_)
  refine nP (seq (sg (mv rfl (co (Ev.lenS Tryz.underlying9 (.t rfl)) ?_))))
  refine co (Ev.lss_i (.t rfl) (.c (v := I 1) rfl)) ?_
  refine mv rfl (cg rfl rfl (Ev.move (.t rfl)) ?_)
  refine cg rfl rfl (Ev.lenS Tryz.underlying9 (.g rfl id)) ?_
  refine cg rfl rfl (Ev.gtr_i (.g rfl id) (.c (v := I 16) rfl)) ?_
  refine co (Ev.pkO (.t rfl) rfl) ?_
  refine nP ?_
  first | refine condD rfl (fun h0 => ?_) (fun h0 => ?_) | refine cond rfl (fun h0 => ?_) (fun h0 => ?_)
  · try simp only [Gx.nb] at h0
    refine sg (co (Ev.assign (.c (v := .bool false) rfl)) ?_)
    refine nP (ret (pR (done rfl (.tmp rfl .nil) (retE ?_))))
    rw [nameB_len (by omega)]; rfl
  · try simp only [Gx.nb] at h0
    refine skip (pN (seq (sg (co (Ev.assign (.c (v := I 0) rfl)) ?_))))
    refine nP (block (lp (X := Int) (fun x : Int => (0 ≤ x ∧ x ≤ s.size) ∧ (∀ k : Nat, k < x → nameC (s.get! k).toNat k = true)) (fun x : Int => [dz, (0, true, .string s), (3, true, I x)]) (fun x : Int => []) (fun x : Int => ((s.size : Int) - x).toNat) (0) ⟨?_, ?_⟩ (fun x hx => ?_)))
    · omega
    · intro k h; omega
    obtain ⟨i, rfl⟩ : ∃ y, y = x := ⟨x, rfl⟩
    obtain ⟨hi, hq⟩ : (0 ≤ i ∧ i ≤ s.size) ∧ (∀ k : Nat, k < i → nameC (s.get! k).toNat k = true) := hx
    show Sat _ _ [dz, (0, true, .string s), (3, true, I i)] []
    refine seq (sg (mv rfl (mv rfl (co (Ev.lenS Tryz.underlying9 (.t rfl)) ?_))))
    refine co (Ev.lss_i (.t rfl) (.t rfl)) ?_
    refine nP ?_
    first | refine condD rfl (fun h1 => ?_) (fun h1 => ?_) | refine cond rfl (fun h1 => ?_) (fun h1 => ?_)
    · try simp only [Gx.nb] at h1
      refine skip (pN (seq (block (sg (mv rfl (mv rfl (co (Ev.indexS (b := s.get! i.toNat) (s := s) Tryz.underlying9 (.t rfl) (.t rfl) (fun _ => ⟨by omega, str_get (by omega)⟩)) ?_)))))))
      refine asn rfl (nP (sg (mv rfl (co (Ev.geq_u8 (.t rfl) (.c (v := U8 97) rfl)) ?_))))
      refine mv rfl (cg rfl rfl (Ev.move (.t rfl)) ?_)
      refine cg rfl rfl (Ev.leq_u8 (.g rfl id) (.c (v := U8 122) rfl)) ?_
      refine co (Ev.pkA (.t rfl) rfl) ?_
      refine asn rfl (nP (sg (mv rfl (co (Ev.geq_u8 (.t rfl) (.c (v := U8 48) rfl)) ?_))))
      refine mv rfl (cg rfl rfl (Ev.move (.t rfl)) ?_)
      refine cg rfl rfl (Ev.leq_u8 (.g rfl id) (.c (v := U8 57) rfl)) ?_
      refine co (Ev.pkA (.t rfl) rfl) ?_
      refine mv rfl (cg rfl rfl (Ev.move (.t rfl)) ?_)
      refine cg rfl rfl (Ev.eql_u8 (.g rfl id) (.c (v := U8 45) rfl)) ?_
      refine co (Ev.pkO (.t rfl) rfl) ?_
      refine mv rfl (cg rfl rfl (Ev.move (.t rfl)) ?_)
      refine cg rfl rfl (Ev.eql_u8 (.g rfl id) (.c (v := U8 95) rfl)) ?_
      refine co (Ev.pkO (.t rfl) rfl) ?_
      refine asn rfl (nP (sg (mv rfl (co (Ev.not (.t rfl)) ?_))))
      refine mv rfl (cg rfl rfl (Ev.move (.t rfl)) ?_)
      refine cg rfl rfl (Ev.eql_i (.g rfl id) (.c (v := I 0) rfl)) ?_
      refine cg rfl rfl (Ev.move (.g rfl id)) ?_
      refine cg rfl rfl (Ev.move (.t rfl)) ?_
      refine cg rfl rfl (Ev.not (.g rfl id)) ?_
      refine cg rfl rfl (Ev.pkO (.g rfl id) rfl) ?_
      refine co (Ev.pkA (.t rfl) rfl) ?_
      refine nP ?_
      first | refine condD rfl (fun h2 => ?_) (fun h2 => ?_) | refine cond rfl (fun h2 => ?_) (fun h2 => ?_)
      · have h2b := (name_key _ _ _).symm.trans h2
        rw [Bool.not_eq_true'] at h2b
        have hu : nameU (s.get! i.toNat) i = false := h2b
        rw [nameU_eq _ (by omega)] at hu
        have ei : ((i.toNat : Nat) : Int) = i := by omega
        rw [← ei] at hu
        simp only [ei, Int.toNat_natCast] at hu
        refine sg (co (Ev.assign (.c (v := .bool false) rfl)) ?_)
        refine nP (ret (bR (pR (pR (bR (pR (done rfl (.tmp rfl .nil) (retE ?_))))))))
        have e : nameB s = false := nameB_no (i := i.toNat) (by omega) (by rw [ei]; exact hu)
        rw [e]; rfl
      · have hcu : nameC (s.get! i.toNat).toNat (i.toNat : Nat) = true := by
          have h2b := (name_key _ _ _).symm.trans h2
          rw [Bool.not_eq_false'] at h2b
          have hu : nameU (s.get! i.toNat) i = true := h2b
          rw [nameU_eq _ (by omega)] at hu
          have ei : ((i.toNat : Nat) : Int) = i := by omega
          rw [ei]; exact hu
        refine skip (bN (pN (region (mv rfl (co (Ev.add_i (.t rfl) (.c (v := I 1) rfl) (fun _ => zo)) ?_)))))
        refine asn rfl (nP (nx (X := Int) (i + 1) ⟨?_, ?_⟩ ?_))
        · try dsimp only
          omega
        · try dsimp only
          intro k h
          by_cases e : (k : Int) < i
          · exact hq k e
          · obtain rfl : k = i.toNat := by omega
            exact hcu
        · try dsimp only
          omega
    · try simp only [Gx.nb] at h1
      refine exit (pX (pX (bX (pN (sg (co (Ev.assign (.c (v := .bool true) rfl)) ?_))))))
      refine nP (ret (done rfl (.tmp rfl .nil) (retE ?_)))
      have e : nameB s = true := nameB_yes (by omega) (fun k hk => hq k (by omega))
      rw [e]; rfl
theorem r15width_ok (a : SAddr) (w : World) : Calls Tryz.prog 149 #[eAddr.val a] w (RetV w (I (wd a))) := by
  refine en0 5 Tryz.func149 ?_
  refine sg (cons (box (E := eAddr) (.t rfl) (fun b1 => ?_)))
  refine co (Ev.assign (.c (v := I 0) rfl)) ?_
  refine nP (seq (sg (co (fA 0 (.t rfl)) ?_)))
  refine co (Ev.ldx a.v6 ty4 (.t rfl) SAddr.l_v6) ?_
  refine nP ?_
  first | refine condD rfl (fun h0 => ?_) (fun h0 => ?_) | refine cond rfl (fun h0 => ?_) (fun h0 => ?_)
  · try simp only [Gx.nb] at h0
    refine sg (co (Ev.assign (.c (v := I 128) rfl)) ?_)
    refine nP (ret (pR (done rfl (.tmp rfl .nil) (retE ?_))))
    simp [wd, h0, tupV]
  · try simp only [Gx.nb] at h0
    refine skip (pN (sg (co (Ev.assign (.c (v := I 32) rfl)) ?_)))
    refine nP (ret (done rfl (.tmp rfl .nil) (retE ?_)))
    simp [wd, h0, tupV]
theorem r15bit_ok (a : SAddr) (i : Int) (w : World) (h : 0 ≤ i ∧ i < 128) : Calls Tryz.prog 150 #[eAddr.val a, I i] w (RetV w (.bool (decide (bitU a.b.toList i = 1)))) := by
  refine en0 16 Tryz.func150 ?_
  refine sg (cons (box (E := eAddr) (.t rfl) (fun b1 => ?_)))
  refine co (Ev.assign (.c (v := .bool false) rfl)) ?_
  refine nP (sg (mv rfl (co (Ev.quo_n (.t rfl) (.c (v := I 8) rfl) (fun _ => zo) (fun _ => zo) (fun _ => zo)) ?_)))
  refine co (fA 1 (.t rfl)) ?_
  refine co (Ev.indexAddrA Tryz.underlying43 ty5 (.t rfl) (.t rfl) (fun _ => zo)) ?_
  refine co (Ev.ldv ty5 (.t rfl) (Lens.comp SAddr.l_b (lArr (n := 16) u8E _ (by omega)))) ?_
  refine mv rfl (co (Ev.rem_n (.t rfl) (.c (v := I 8) rfl) (fun _ => zo) (fun _ => zo)) ?_)
  refine co (Ev.sub_i (.c (v := I 7) rfl) (.t rfl) (fun _ => zo)) ?_
  refine co (Ev.shr_u8 (.t rfl) (.t rfl) (fun _ => zo)) ?_
  refine co (Ev.rem_u8 (.t rfl) (.c (v := U8 2) rfl) (fun _ => by decide)) ?_
  refine co (Ev.eql_u8 (.t rfl) (.c (v := U8 1) rfl)) ?_
  refine asn rfl (nP (ret (done rfl (.tmp rfl .nil) (retE ?_))))
  unfold bitU
  rw [vec_getD a.b _ (by omega), ← u8_mod2]
  rfl
theorem en149 : Gx.Enters Tryz.prog 149 := Gx.Enters.mk' zk
theorem r15checkA_ok (a : SAddr) (w : World) : Calls Tryz.prog 148 #[eAddr.val a] w (RetV w (I (checkA a))) := by
  have hw := wd_le a
  refine en0 16 Tryz.func148 ?_
  refine sg (cons (box (E := eAddr) (.t rfl) (fun b1 => ?_)))
  refine co (Ev.assign (.c (v := I 0) rfl)) ?_
  refine nP (seq (sg (co (Ev.ldx a ty45 (.t rfl) (Lens.id _)) ?_)))
  refine cons (callv en149 (.cons (.t rfl) .nil) (fun w I => r15width_ok _ w) ?_)
  refine co (Ev.to (v' := I (wd a / 8)) (Ev.quo_n (.t rfl) (.c (v := I 8) rfl) (fun _ => zo) (fun _ => zo) (fun _ => zo)) (rfl)) ?_
  refine asn rfl (nP (block (lp (X := Int) (fun x : Int => (wd a / 8 ≤ x ∧ x ≤ 16) ∧ (∀ k : Nat, wd a / 8 ≤ k → k < x → a.b.toList.getD k 0 = 0)) (fun x : Int => [dz, (1, true, .pointer (some ⟨b1, 0, none⟩)), (3, true, I x)]) (fun x : Int => [Var b1 eAddr a 45]) (fun x : Int => (16 - x).toNat) (wd a / 8) ⟨?_, ?_⟩ (fun x hx => ?_))))
  · omega
  · intro k h1 h2; omega
  obtain ⟨i, rfl⟩ : ∃ y, y = x := ⟨x, rfl⟩
  obtain ⟨hi, hz⟩ : (wd a / 8 ≤ i ∧ i ≤ 16) ∧ (∀ k : Nat, wd a / 8 ≤ k → k < i → a.b.toList.getD k 0 = 0) := hx
  show Sat _ _ [dz, (1, true, .pointer (some ⟨b1, 0, none⟩)), (3, true, I i)] [Var b1 eAddr a 45]
  refine seq (sg (mv rfl (co (Ev.lss_i (.t rfl) (.c (v := I 16) rfl)) ?_)))
  refine nP ?_
  first | refine condD rfl (fun h0 => ?_) (fun h0 => ?_) | refine cond rfl (fun h0 => ?_) (fun h0 => ?_)
  · try simp only [Gx.nb] at h0
    refine skip (pN (seq (block (sg (mv rfl (co (fA 1 (.t rfl)) ?_))))))
    refine co (Ev.indexAddrA Tryz.underlying43 ty5 (.t rfl) (.t rfl) (fun _ => zo)) ?_
    refine co (Ev.ldv ty5 (.t rfl) (Lens.comp SAddr.l_b (lArr (n := 16) u8E _ (by omega)))) ?_
    refine co (Ev.neq_u8 (.t rfl) (.c (v := U8 0) rfl)) ?_
    refine nP ?_
    first | refine condD rfl (fun h1 => ?_) (fun h1 => ?_) | refine cond rfl (fun h1 => ?_) (fun h1 => ?_)
    · try simp only [Gx.nb] at h1
      refine sg (co (Ev.assign (.c (v := I 150) rfl)) ?_)
      refine nP (ret (bR (pR (pR (bR (pR (done rfl (.tmp rfl .nil) (retE ?_))))))))
      have hne : ¬ checkA a = 0 := fun h => by
        have := (checkA_bytes a).1 h i.toNat (by omega) (by omega)
        rw [vec_getD a.b _ (by omega)] at this
        exact h1 this
      have e : checkA a = 150 := by unfold checkA at hne ⊢; split at hne <;> simp_all
      rw [e]; rfl
    · try simp only [Gx.nb] at h1
      refine skip (bN (pN (region (mv rfl (co (Ev.add_i (.t rfl) (.c (v := I 1) rfl) (fun _ => zo)) ?_)))))
      refine asn rfl (nP (nx (X := Int) (i + 1) ⟨?_, ?_⟩ ?_))
      · try dsimp only
        omega
      · try dsimp only
        intro k h1a h2a
        by_cases e : (k : Int) < i
        · exact hz k h1a e
        · obtain rfl : k = i.toNat := by omega
          rw [vec_getD a.b _ (by omega)]
          simpa using h1
      · try dsimp only
        omega
  · try simp only [Gx.nb] at h0
    refine exit (pX (pX (bX (pN (sg (co (Ev.assign (.c (v := I 0) rfl)) ?_))))))
    refine nP (ret (done rfl (.tmp rfl .nil) (retE ?_)))
    have e : checkA a = 0 := (checkA_bytes a).2 (fun k hk1 hk2 => hz k hk1 (by omega))
    rw [e]; rfl
theorem checkP_15 (p : SPrefix) : checkP p = 0 ↔ checkA p.addr = 0 ∧ 0 ≤ p.bits ∧ p.bits ≤ wd p.addr ∧ ∀ i : Int, p.bits ≤ i → i < wd p.addr → ¬ bitU p.addr.b.toList i = 1 := by
  have hw := wd_le p.addr
  have h01 : ∀ i, bitU p.addr.b.toList i = 0 ∨ bitU p.addr.b.toList i = 1 := fun i => by
    have : ∀ x : UInt8, x &&& 1 = 0 ∨ x &&& 1 = 1 := fun x => by
      have h : (x &&& 1).toNat = x.toNat % 2 := by
        rw [UInt8.toNat_and]
        exact Nat.and_one_is_mod _
      rcases Nat.mod_two_eq_zero_or_one x.toNat with h2 | h2
      · exact .inl (UInt8.toNat_inj.1 (by rw [h, h2]; rfl))
      · exact .inr (UInt8.toNat_inj.1 (by rw [h, h2]; rfl))
    exact this _
  rw [checkP_zero, checkA_zero]
  constructor
  · rintro ⟨h1, h2, h3⟩
    refine ⟨fun i hi hj => h3 i (by omega) hj, h1, h2, fun i hi hj e => ?_⟩
    rw [h3 i hi (by omega)] at e
    exact absurd e (by decide)
  · rintro ⟨h1, h2, h3, h4⟩
    refine ⟨h2, h3, fun i hi hj => ?_⟩
    by_cases hlt : i < wd p.addr
    · exact (h01 i).resolve_right (h4 i hi hlt)
    · exact h1 i (by omega) hj
theorem checkP_or (p : SPrefix) : checkP p = 0 ∨ checkP p = 151 := by
  unfold checkP
  split <;> simp
theorem en148 : Gx.Enters Tryz.prog 148 := Gx.Enters.mk' zk
theorem en150 : Gx.Enters Tryz.prog 150 := Gx.Enters.mk' zk
theorem r15check_ok (p : SPrefix) (w : World) : Calls Tryz.prog 121 #[ePrefix.val p] w (RetV w (I (checkP p))) := by
  have hw := wd_le p.addr
  refine en0 34 Tryz.func121 ?_
  refine sg (cons (box (E := ePrefix) (.t rfl) (fun b1 => ?_)))
  refine co (Ev.assign (.c (v := I 0) rfl)) ?_
  refine nP (seq (seq (draw' zk ?_)))
  refine tk 0 rfl (fA 0 (.t rfl)) ?_
  refine tk 1 rfl (Ev.ldx p.addr ty45 (.t rfl) SPrefix.l_addr) ?_
  refine al1 2 rfl ((callv en148 (.cons (.t rfl) .nil) (fun w I => r15checkA_ok _ w) ?_))
  refine hdn (tk 3 rfl (Ev.neq_i (.t rfl) (.c (v := I 0) rfl)) ?_)
  refine tk 4 rfl (Ev.move (.t rfl)) ?_
  refine tkg 5 rfl rfl rfl (fA 17 (.t rfl)) ?_
  refine tkg 6 rfl rfl rfl (Ev.ldx p.bits ty3 (.g rfl id) SPrefix.l_bits) ?_
  refine tkg 7 rfl rfl rfl (Ev.lss_i (.g rfl id) (.c (v := I 0) rfl)) ?_
  refine tk 8 rfl (Ev.pkO (.t rfl) rfl) ?_
  refine tk 9 rfl (Ev.move (.t rfl)) ?_
  refine tkg 10 rfl rfl rfl (fA 17 (.t rfl)) ?_
  refine tkg 11 rfl rfl rfl (Ev.ldx p.bits ty3 (.g rfl id) SPrefix.l_bits) ?_
  refine tkg 12 rfl rfl rfl (fA 0 (.t rfl)) ?_
  refine tkg 13 rfl rfl rfl (Ev.ldx p.addr ty45 (.g rfl id) SPrefix.l_addr) ?_
  refine al1 14 rfl ((callg rfl rfl en149 (.cons (.g rfl id) .nil) (fun hg w I => r15width_ok _ w) ?_))
  refine hdn (tkg 15 rfl rfl rfl (Ev.gtr_i (.g rfl id) (.g rfl id)) ?_)
  refine tk 16 rfl (Ev.pkO (.t rfl) rfl) ?_
  refine ovr (pN ?_)
  first | refine condD rfl (fun h0 => ?_) (fun h0 => ?_) | refine cond rfl (fun h0 => ?_) (fun h0 => ?_)
  · refine sg (co (Ev.assign (.c (v := I 151) rfl)) ?_)
    refine nP (ret (pR (done rfl (.tmp rfl .nil) (retE ?_))))
    have e : checkP p = 151 := (checkP_or p).resolve_left (fun h => by
      have := (checkP_15 p).1 h
      simp [this.1] at h0
      omega)
    rw [e]; rfl
  · have hr : checkA p.addr = 0 ∧ 0 ≤ p.bits ∧ p.bits ≤ wd p.addr := by simpa [and_assoc] using h0
    refine skip (pN (seq (sg (co (fA 17 (.t rfl)) ?_))))
    refine co (Ev.ldx p.bits ty3 (.t rfl) SPrefix.l_bits) ?_
    refine asn rfl (nP (block (lp (X := Int) (fun x : Int => (p.bits ≤ x ∧ x ≤ wd p.addr) ∧ (∀ j : Int, p.bits ≤ j → j < x → ¬ bitU p.addr.b.toList j = 1)) (fun x : Int => [dz, (1, true, .pointer (some ⟨b1, 0, none⟩)), (3, true, I x)]) (fun x : Int => [Var b1 ePrefix p 109]) (fun x : Int => (wd p.addr - x).toNat) (p.bits) ⟨?_, ?_⟩ (fun x hx => ?_))))
    · omega
    · intro j h1 h2; omega
    obtain ⟨i, rfl⟩ : ∃ y, y = x := ⟨x, rfl⟩
    obtain ⟨hi, hz⟩ : (p.bits ≤ i ∧ i ≤ wd p.addr) ∧ (∀ j : Int, p.bits ≤ j → j < i → ¬ bitU p.addr.b.toList j = 1) := hx
    show Sat _ _ [dz, (1, true, .pointer (some ⟨b1, 0, none⟩)), (3, true, I i)] [Var b1 ePrefix p 109]
    refine seq (sg (mv rfl (co (fA 0 (.t rfl)) ?_)))
    refine co (Ev.ldx p.addr ty45 (.t rfl) SPrefix.l_addr) ?_
    refine cons (callv en149 (.cons (.t rfl) .nil) (fun w I => r15width_ok _ w) ?_)
    refine co (Ev.lss_i (.t rfl) (.t rfl)) ?_
    refine nP ?_
    first | refine condD rfl (fun h1 => ?_) (fun h1 => ?_) | refine cond rfl (fun h1 => ?_) (fun h1 => ?_)
    · try simp only [Gx.nb] at h1
      refine skip (pN (seq (block (sg (co (fA 0 (.t rfl)) ?_)))))
      refine co (Ev.ldx p.addr ty45 (.t rfl) SPrefix.l_addr) ?_
      refine mv rfl (cons (callv en150 (.cons (.t rfl) (.cons (.t rfl) .nil)) (fun w I => r15bit_ok _ _ w (by first | omega | (simp; omega))) ?_))
      refine nP ?_
      first | refine condD rfl (fun h2 => ?_) (fun h2 => ?_) | refine cond rfl (fun h2 => ?_) (fun h2 => ?_)
      · refine sg (co (Ev.assign (.c (v := I 151) rfl)) ?_)
        refine nP (ret (bR (pR (pR (bR (pR (done rfl (.tmp rfl .nil) (retE ?_))))))))
        have e : checkP p = 151 := (checkP_or p).resolve_left (fun h => ((checkP_15 p).1 h).2.2.2 i (by omega) (by omega) (by simpa using h2))
        rw [e]; rfl
      · refine skip (bN (pN (region (mv rfl (co (Ev.add_i (.t rfl) (.c (v := I 1) rfl) (fun _ => zo)) ?_)))))
        refine asn rfl (nP (nx (X := Int) (i + 1) ⟨?_, ?_⟩ ?_))
        · try dsimp only
          omega
        · try dsimp only
          intro j h1 h2a
          by_cases e : j = i
          · rw [e]; simpa using h2
          · exact hz j h1 (by omega)
        · try dsimp only
          omega
    · try simp only [Gx.nb] at h1
      refine exit (pX (pX (bX (pN (sg (co (Ev.assign (.c (v := I 0) rfl)) ?_))))))
      refine nP (ret (done rfl (.tmp rfl .nil) (retE ?_)))
      have e : checkP p = 0 := (checkP_15 p).2 ⟨hr.1, hr.2.1, hr.2.2, fun j h1 h2 => hz j h1 (by omega)⟩
      rw [e]; rfl
theorem rroom_ok (n : Int) (w : World) : Calls Tryz.prog 130 #[I n] w (RetV w (.bool (roomB n))) := by
  refine en0 11 Tryz.func130 ?_
  refine sg (co (Ev.assign (.c (v := .bool false) rfl)) ?_)
  refine nP (seq (sg (co (Ev.assign (.c (v := I 2) rfl)) ?_)))
  refine nP (block (lp (X := Int) (fun x : Int => (x ∈ (2048 :: rooms)) ∧ (∀ m ∈ rooms, m < x → ¬ m = n)) (fun x : Int => [dz, (0, true, I n), (3, true, I x)]) (fun x : Int => []) (fun x : Int => (2048 - x).toNat) (2) ⟨?_, ?_⟩ (fun x hx => ?_)))
  · decide
  · have h : ∀ m ∈ rooms, ¬ m < 2 := by decide
    exact fun m hm hl => absurd hl (h m hm)
  obtain ⟨k, rfl⟩ : ∃ y, y = x := ⟨x, rfl⟩
  obtain ⟨hk, hq⟩ : (k ∈ (2048 :: rooms)) ∧ (∀ m ∈ rooms, m < k → ¬ m = n) := hx
  show Sat _ _ [dz, (0, true, I n), (3, true, I k)] []
  refine seq (sg (mv rfl (co (Ev.leq_i (.t rfl) (.c (v := I 1024) rfl)) ?_)))
  refine nP ?_
  first | refine condD rfl (fun h0 => ?_) (fun h0 => ?_) | refine cond rfl (fun h0 => ?_) (fun h0 => ?_)
  · try simp only [Gx.nb] at h0
    have hkr : k ∈ rooms := by
      rcases List.mem_cons.1 hk with h | h
      · omega
      · exact h
    have hkb : 2 ≤ k ∧ k ≤ 1024 := by
      have : ∀ k ∈ rooms, 2 ≤ k ∧ k ≤ 1024 := by decide
      exact this k hkr
    refine skip (pN (seq (block (sg (mv rfl (mv rfl (co (Ev.eql_i (.t rfl) (.t rfl)) ?_)))))))
    refine nP ?_
    first | refine condD rfl (fun h1 => ?_) (fun h1 => ?_) | refine cond rfl (fun h1 => ?_) (fun h1 => ?_)
    · try simp only [Gx.nb] at h1
      refine sg (co (Ev.assign (.c (v := .bool true) rfl)) ?_)
      refine nP (ret (bR (pR (pR (bR (pR (done rfl (.tmp rfl .nil) (retE ?_))))))))
      have e : roomB n = true := (roomB_iff n).2 (h1 ▸ hkr)
      rw [e]; rfl
    · try simp only [Gx.nb] at h1
      refine skip (bN (pN (region (mv rfl (co (Ev.mul_i (.c (v := I 2) rfl) (.t rfl) (fun _ => zo)) ?_)))))
      refine asn rfl (nP (nx (X := Int) (2 * k) ⟨?_, ?_⟩ ?_))
      · try dsimp only
        have hs : ∀ k ∈ rooms, 2 * k ∈ (2048 :: rooms) := by decide
        exact hs k hkr
      · try dsimp only
        have hs : ∀ k ∈ rooms, ∀ m ∈ rooms, m < 2 * k → m < k ∨ m = k := by decide
        intro m hm hlt
        rcases hs k hkr m hm hlt with h | h
        · exact hq m hm h
        · rw [h]; exact h1
      · try dsimp only
        have := hkb; omega
  · try simp only [Gx.nb] at h0
    have hkt : k = 2048 := by
      rcases List.mem_cons.1 hk with h | h
      · exact h
      · have : ∀ k ∈ rooms, k ≤ 1024 := by decide
        have := this k h
        omega
    refine exit (pX (pX (bX (pN (sg (co (Ev.assign (.c (v := .bool false) rfl)) ?_))))))
    refine nP (ret (done rfl (.tmp rfl .nil) (retE ?_)))
    have e : roomB n = false := by
      rw [Bool.eq_false_iff]
      intro h
      have hm := (roomB_iff n).1 h
      have : ∀ m ∈ rooms, m < 2048 := by decide
      exact hq n hm (by rw [hkt]; exact this n hm) rfl
    rw [e]; rfl
theorem rckport_ok (c : SConf) (l : CL) (i : Int) (w : World) (hc : ConfAt w c l) (hi : 0 ≤ i ∧ i < l.ps.length) : Calls Tryz.prog 87 #[eConf.val c, I i] w (RetV w (I (portE l.ps (l.ps.getD i.toNat iE.zero) i))) := by
  have hle := hc.ps.le
  refine en0 35 Tryz.func87 ?_
  refine sg (cons (box (E := eConf) (.t rfl) (fun b1 => ?_)))
  refine co (Ev.assign (.c (v := I 0) rfl)) ?_
  refine nP (seq (sg (co (fA 0 (.t rfl)) ?_)))
  refine co (Ev.ldx c.ports ty22 (.t rfl) SConf.l_ports) ?_
  refine mv rfl (co (Ev.indexAddr Tryz.underlying22 ty3 (.t rfl) (.t rfl) (fun w I => (hc.keep0 I.keeps).ps) (fun _ => zo)) ?_)
  refine co (Ev.loadS0 ty3 (.t rfl) (fun w I => (hc.keep0 I.keeps).ps) (fun _ => zo)) ?_
  refine co (Ev.lss_i (.t rfl) (.c (v := I 0) rfl)) ?_
  refine mv rfl (cg rfl rfl (fA 0 (.t rfl)) ?_)
  refine cg rfl rfl (Ev.ldx c.ports ty22 (.g rfl id) SConf.l_ports) ?_
  refine cg rfl rfl (Ev.move (.t rfl)) ?_
  refine cg rfl rfl (Ev.indexAddr Tryz.underlying22 ty3 (.g rfl id) (.g rfl id) (fun w I => (hc.keep0 I.keeps).ps) (fun _ => by first | omega | (rename_i hg; simp at hg; omega))) ?_
  refine cg rfl rfl (Ev.loadS0 ty3 (.g rfl id) (fun w I => (hc.keep0 I.keeps).ps) (fun _ => by first | omega | (rename_i hg; simp at hg; omega))) ?_
  refine cg rfl rfl (Ev.gtr_i (.g rfl id) (.c (v := I 255) rfl)) ?_
  refine co (Ev.pkO (.t rfl) rfl) ?_
  refine nP ?_
  first | refine condD rfl (fun h0 => ?_) (fun h0 => ?_) | refine cond rfl (fun h0 => ?_) (fun h0 => ?_)
  · refine sg (co (Ev.assign (.c (v := I 5) rfl)) ?_)
    refine nP (ret (pR (done rfl (.tmp rfl .nil) (retE ?_))))
    unfold portE; rw [if_pos (by simpa using h0)]; rfl
  · refine skip (pN (seq (seq (draw' zk ?_))))
    refine tk 0 rfl (Ev.move (.t rfl)) ?_
    refine tk 1 rfl (Ev.gtr_i (.t rfl) (.c (v := I 0) rfl)) ?_
    refine tk 2 rfl (Ev.move (.t rfl)) ?_
    refine tkg 3 rfl rfl rfl (fA 0 (.t rfl)) ?_
    refine tkg 4 rfl rfl rfl (Ev.ldx c.ports ty22 (.g rfl id) SConf.l_ports) ?_
    refine tkg 5 rfl rfl rfl (Ev.move (.t rfl)) ?_
    refine tkg 6 rfl rfl rfl (Ev.indexAddr Tryz.underlying22 ty3 (.g rfl id) (.g rfl id) (fun w I => (hc.keep0 I.keeps).ps) (fun _ => by first | omega | (rename_i hg; simp at hg; omega))) ?_
    refine tkg 7 rfl rfl rfl (Ev.loadS0 ty3 (.g rfl id) (fun w I => (hc.keep0 I.keeps).ps) (fun _ => by first | omega | (rename_i hg; simp at hg; omega))) ?_
    refine tkg 8 rfl rfl rfl (fA 0 (.t rfl)) ?_
    refine tkg 9 rfl rfl rfl (Ev.ldx c.ports ty22 (.g rfl id) SConf.l_ports) ?_
    refine tkg 10 rfl rfl rfl (Ev.move (.t rfl)) ?_
    refine tkg 11 rfl rfl rfl (Ev.sub_i (.g rfl id) (.c (v := I 1) rfl) (fun _ => by first | omega | (rename_i hg; simp at hg; omega))) ?_
    refine tkg 12 rfl rfl rfl (Ev.indexAddr Tryz.underlying22 ty3 (.g rfl id) (.g rfl id) (fun w I => (hc.keep0 I.keeps).ps) (fun _ => by first | omega | (rename_i hg; simp at hg; omega))) ?_
    refine tkg 13 rfl rfl rfl (Ev.loadS0 ty3 (.g rfl id) (fun w I => (hc.keep0 I.keeps).ps) (fun _ => by first | omega | (rename_i hg; simp at hg; omega))) ?_
    refine tkg 14 rfl rfl rfl (Ev.leq_i (.g rfl id) (.g rfl id)) ?_
    refine tk 15 rfl (Ev.pkA (.t rfl) rfl) ?_
    refine ovr (pN ?_)
    first | refine condD rfl (fun h1 => ?_) (fun h1 => ?_) | refine cond rfl (fun h1 => ?_) (fun h1 => ?_)
    · refine sg (co (Ev.assign (.c (v := I 2) rfl)) ?_)
      refine nP (ret (pR (done rfl (.tmp rfl .nil) (retE ?_))))
      have ez : (iE.zero : Int) = 0 := rfl
      unfold portE; rw [if_neg (by simpa using h0), if_pos (by simpa [ez] using h1)]; rfl
    · refine skip (pN (sg (co (Ev.assign (.c (v := I 0) rfl)) ?_)))
      refine nP (ret (done rfl (.tmp rfl .nil) (retE ?_)))
      have ez : (iE.zero : Int) = 0 := rfl
      unfold portE; rw [if_neg (by simpa using h0), if_neg (by simpa [ez] using h1)]; rfl
theorem en121 : Gx.Enters Tryz.prog 121 := Gx.Enters.mk' zk
theorem en122 : Gx.Enters Tryz.prog 122 := Gx.Enters.mk' zk
theorem en123 : Gx.Enters Tryz.prog 123 := Gx.Enters.mk' zk
theorem rckroute_ok (c : SConf) (l : CL) (i : Int) (w : World) (hc : ConfAt w c l) (hi : 0 ≤ i ∧ i < l.rs.length) : Calls Tryz.prog 88 #[eConf.val c, I i] w (RetV w (I (routeE l (l.rs.getD i.toNat eRoute.zero) i))) := by
  have hle := hc.rs.le
  have hix := find_at SPrefix.eqb_iff (fun r => r.to_) l.rs eRoute.zero i.toNat (by omega)
  have hix3 : (findV SPrefix.eqb (l.rs.getD i.toNat eRoute.zero).to_ (routesM l)).getD 0 = idxF (fun z => SPrefix.eqb z.to_ (l.rs.getD i.toNat eRoute.zero).to_) l.rs := hix
  refine en0 26 Tryz.func88 ?_
  refine sg (cons (box (E := eConf) (.t rfl) (fun b1 => ?_)))
  refine co (Ev.assign (.c (v := I 0) rfl)) ?_
  refine nP (sg (co (fA 1 (.t rfl)) ?_))
  refine co (Ev.ldx c.routes ty23 (.t rfl) SConf.l_routes) ?_
  refine mv rfl (co (Ev.indexAddr Tryz.underlying23 ty172 (.t rfl) (.t rfl) (fun w I => (hc.keep0 I.keeps).rs) (fun _ => zo)) ?_)
  refine co (Ev.loadS0 ty172 (.t rfl) (fun w I => (hc.keep0 I.keeps).rs) (fun _ => zo)) ?_
  refine cons (alloc z172 (fun b2 => ?_))
  refine cons (stv ty172 (Lens.id _) (.t rfl) (.t rfl) ?_)
  refine nP (seq (sg (co (fA 0 (.t rfl)) ?_)))
  refine co (Ev.ldv ty109 (.t rfl) SRoute.l_to_) ?_
  refine cons (callv en121 (.cons (.t rfl) .nil) (fun w I => r15check_ok _ w) ?_)
  refine co (Ev.neq_i (.t rfl) (.c (v := I 0) rfl)) ?_
  refine nP ?_
  first | refine condD rfl (fun h0 => ?_) (fun h0 => ?_) | refine cond rfl (fun h0 => ?_) (fun h0 => ?_)
  · refine sg (co (Ev.assign (.c (v := I 151) rfl)) ?_)
    refine nP (ret (pR (done rfl (.tmp rfl .nil) (retE ?_))))
    have p0 : checkP (l.rs.getD i.toNat eRoute.zero).to_ ≠ 0 := by simpa using h0
    unfold routeE
    rw [if_pos p0]
    rfl
  · refine skip (pN (seq (sg (co (Ev.ldx c ty28 (.t rfl) (Lens.id _)) ?_))))
    refine co (fA 18 (.t rfl)) ?_
    refine co (Ev.ldv ty3 (.t rfl) SRoute.l_out) ?_
    refine cons (callv en122 (.cons (.t rfl) (.cons (.t rfl) .nil)) (fun w I => rport_ok c l _ w (hc.keep0 I.keeps)) ?_)
    refine co (Ev.not (.t rfl)) ?_
    refine nP ?_
    first | refine condD rfl (fun h1 => ?_) (fun h1 => ?_) | refine cond rfl (fun h1 => ?_) (fun h1 => ?_)
    · refine sg (co (Ev.assign (.c (v := I 5) rfl)) ?_)
      refine nP (ret (pR (done rfl (.tmp rfl .nil) (retE ?_))))
      have n0 : ¬ (checkP (l.rs.getD i.toNat eRoute.zero).to_ ≠ 0) := by simpa using h0
      have p1 : portB l (l.rs.getD i.toNat eRoute.zero).out = false := by simpa using h1
      unfold routeE
      rw [if_neg n0, if_pos p1]
      rfl
    · refine skip (pN (seq (sg (co (Ev.ldx c ty28 (.t rfl) (Lens.id _)) ?_))))
      refine co (fA 0 (.t rfl)) ?_
      refine co (Ev.ldv ty109 (.t rfl) SRoute.l_to_) ?_
      refine cons (callv en123 (.cons (.t rfl) (.cons (.t rfl) .nil)) (fun w I => rroute_ix c l _ w (hc.keep0 I.keeps)) ?_)
      refine mv rfl (co (Ev.lss_i (.t rfl) (.t rfl)) ?_)
      refine nP ?_
      first | refine condD rfl (fun h2 => ?_) (fun h2 => ?_) | refine cond rfl (fun h2 => ?_) (fun h2 => ?_)
      · refine sg (co (Ev.assign (.c (v := I 2) rfl)) ?_)
        refine nP (ret (pR (done rfl (.tmp rfl .nil) (retE ?_))))
        have n0 : ¬ (checkP (l.rs.getD i.toNat eRoute.zero).to_ ≠ 0) := by simpa using h0
        have n1 : ¬ (portB l (l.rs.getD i.toNat eRoute.zero).out = false) := by simpa using h1
        have p2 : (findV SPrefix.eqb (l.rs.getD i.toNat eRoute.zero).to_ (routesM l)).getD 0 < i := by rw [hix3]; simpa using h2
        unfold routeE
        rw [if_neg n0, if_neg n1, if_pos p2]
        rfl
      · refine skip (pN (sg (co (Ev.assign (.c (v := I 0) rfl)) ?_)))
        refine nP (ret (done rfl (.tmp rfl .nil) (retE ?_)))
        have n0 : ¬ (checkP (l.rs.getD i.toNat eRoute.zero).to_ ≠ 0) := by simpa using h0
        have n1 : ¬ (portB l (l.rs.getD i.toNat eRoute.zero).out = false) := by simpa using h1
        have n2 : ¬ ((findV SPrefix.eqb (l.rs.getD i.toNat eRoute.zero).to_ (routesM l)).getD 0 < i) := by rw [hix3]; simpa using h2
        unfold routeE
        rw [if_neg n0, if_neg n1, if_neg n2]
        rfl
theorem en124 : Gx.Enters Tryz.prog 124 := Gx.Enters.mk' zk
theorem en127 : Gx.Enters Tryz.prog 127 := Gx.Enters.mk' zk
theorem en129 : Gx.Enters Tryz.prog 129 := Gx.Enters.mk' zk
theorem rckmeter_ok (c : SConf) (l : CL) (i : Int) (w : World) (hc : ConfAt w c l) (hi : 0 ≤ i ∧ i < l.ms.length) (hn : l.Names) : Calls Tryz.prog 90 #[eConf.val c, I i] w (RetV w (I (meterE l (l.ms.getD i.toNat eMeterConf.zero) i))) := by
  have hle := hc.ms.le
  have hs := hn.ms (l.ms.getD i.toNat eMeterConf.zero) (getD_in _ _ _ (by omega))
  have hix := find_at eqs_iff (fun r => r.name) l.ms eMeterConf.zero i.toNat (by omega)
  have hix3 := by
    have hix2 : (findV eqs (l.ms.getD i.toNat eMeterConf.zero).name (metersM l)).getD 0 = idxF (fun z => decide (z.name = (l.ms.getD i.toNat eMeterConf.zero).name)) l.ms := by
      refine hix.trans (congrArg (fun p => idxF p l.ms) (funext fun z => eqs_dec _ _))
    exact hix2
  refine en0 27 Tryz.func90 ?_
  refine sg (cons (box (E := eConf) (.t rfl) (fun b1 => ?_)))
  refine co (Ev.assign (.c (v := I 0) rfl)) ?_
  refine nP (sg (co (fA 3 (.t rfl)) ?_))
  refine co (Ev.ldx c.meters ty25 (.t rfl) SConf.l_meters) ?_
  refine mv rfl (co (Ev.indexAddr Tryz.underlying25 ty134 (.t rfl) (.t rfl) (fun w I => (hc.keep0 I.keeps).ms) (fun _ => zo)) ?_)
  refine co (Ev.loadS0 ty134 (.t rfl) (fun w I => (hc.keep0 I.keeps).ms) (fun _ => zo)) ?_
  refine cons (alloc z134 (fun b2 => ?_))
  refine cons (stv ty134 (Lens.id _) (.t rfl) (.t rfl) ?_)
  refine nP (seq (sg (co (fA 0 (.t rfl)) ?_)))
  refine co (Ev.ldv ty9 (.t rfl) SMeterConf.l_name) ?_
  refine cons (callv en124 (.cons (.t rfl) .nil) (fun w I => rname_ok _ w hs) ?_)
  refine co (Ev.not (.t rfl)) ?_
  refine nP ?_
  first | refine condD rfl (fun h0 => ?_) (fun h0 => ?_) | refine cond rfl (fun h0 => ?_) (fun h0 => ?_)
  · refine sg (co (Ev.assign (.c (v := I 201) rfl)) ?_)
    refine nP (ret (pR (done rfl (.tmp rfl .nil) (retE ?_))))
    have p0 : nameB (l.ms.getD i.toNat eMeterConf.zero).name = false := by simpa using h0
    unfold meterE
    rw [if_pos p0]
    rfl
  · refine skip (pN (seq (sg (co (Ev.ldx c ty28 (.t rfl) (Lens.id _)) ?_))))
    refine co (fA 0 (.t rfl)) ?_
    refine co (Ev.ldv ty9 (.t rfl) SMeterConf.l_name) ?_
    refine cons (callv en127 (.cons (.t rfl) (.cons (.t rfl) .nil)) (fun w I => rmeter_ix c l _ w (hc.keep0 I.keeps)) ?_)
    refine mv rfl (co (Ev.lss_i (.t rfl) (.t rfl)) ?_)
    refine mv rfl (cg rfl rfl (fA 1 (.t rfl)) ?_)
    refine cg rfl rfl (Ev.ldv ty132 (.g rfl id) SMeterConf.l_bucket) ?_
    refine cons (callg rfl rfl en129 (.cons (.g rfl id) .nil) (fun hg w I => rbucket_ok _ w) ?_)
    refine cg rfl rfl (Ev.neq_i (.g rfl id) (.c (v := I 0) rfl)) ?_
    refine co (Ev.pkO (.t rfl) rfl) ?_
    refine nP ?_
    first | refine condD rfl (fun h1 => ?_) (fun h1 => ?_) | refine cond rfl (fun h1 => ?_) (fun h1 => ?_)
    · refine sg (co (Ev.assign (.c (v := I 2) rfl)) ?_)
      refine nP (ret (pR (done rfl (.tmp rfl .nil) (retE ?_))))
      have n0 : ¬ (nameB (l.ms.getD i.toNat eMeterConf.zero).name = false) := by simpa using h0
      have p1 : (findV eqs (l.ms.getD i.toNat eMeterConf.zero).name (metersM l)).getD 0 < i ∨ ckB (l.ms.getD i.toNat eMeterConf.zero).bucket ≠ 0 := by rw [hix3]; simpa using h1
      unfold meterE
      rw [if_neg n0, if_pos p1]
      rfl
    · refine skip (pN (sg (co (Ev.assign (.c (v := I 0) rfl)) ?_)))
      refine nP (ret (done rfl (.tmp rfl .nil) (retE ?_)))
      have n0 : ¬ (nameB (l.ms.getD i.toNat eMeterConf.zero).name = false) := by simpa using h0
      have n1 : ¬ ((findV eqs (l.ms.getD i.toNat eMeterConf.zero).name (metersM l)).getD 0 < i ∨ ckB (l.ms.getD i.toNat eMeterConf.zero).bucket ≠ 0) := by rw [hix3]; simpa using h1
      unfold meterE
      rw [if_neg n0, if_neg n1]
      rfl
theorem en128 : Gx.Enters Tryz.prog 128 := Gx.Enters.mk' zk
theorem en130 : Gx.Enters Tryz.prog 130 := Gx.Enters.mk' zk
theorem rckmirror_ok (c : SConf) (l : CL) (i : Int) (w : World) (hc : ConfAt w c l) (hi : 0 ≤ i ∧ i < l.xs.length) (hn : l.Names) : Calls Tryz.prog 91 #[eConf.val c, I i] w (RetV w (I (mirrorE l (l.xs.getD i.toNat eMirrorConf.zero) i))) := by
  have hle := hc.xs.le
  have hs := hn.xs (l.xs.getD i.toNat eMirrorConf.zero) (getD_in _ _ _ (by omega))
  have hix := find_at eqs_iff (fun r => r.name) l.xs eMirrorConf.zero i.toNat (by omega)
  have hix3 := by
    have hix2 : (findV eqs (l.xs.getD i.toNat eMirrorConf.zero).name (mirrorsM l)).getD 0 = idxF (fun z => decide (z.name = (l.xs.getD i.toNat eMirrorConf.zero).name)) l.xs := by
      refine hix.trans (congrArg (fun p => idxF p l.xs) (funext fun z => eqs_dec _ _))
    exact hix2
  refine en0 30 Tryz.func91 ?_
  refine sg (cons (box (E := eConf) (.t rfl) (fun b1 => ?_)))
  refine co (Ev.assign (.c (v := I 0) rfl)) ?_
  refine nP (sg (co (fA 4 (.t rfl)) ?_))
  refine co (Ev.ldx c.mirrors ty26 (.t rfl) SConf.l_mirrors) ?_
  refine mv rfl (co (Ev.indexAddr Tryz.underlying26 ty136 (.t rfl) (.t rfl) (fun w I => (hc.keep0 I.keeps).xs) (fun _ => zo)) ?_)
  refine co (Ev.loadS0 ty136 (.t rfl) (fun w I => (hc.keep0 I.keeps).xs) (fun _ => zo)) ?_
  refine cons (alloc z136 (fun b2 => ?_))
  refine cons (stv ty136 (Lens.id _) (.t rfl) (.t rfl) ?_)
  refine nP (seq (sg (co (fA 0 (.t rfl)) ?_)))
  refine co (Ev.ldv ty9 (.t rfl) SMirrorConf.l_name) ?_
  refine cons (callv en124 (.cons (.t rfl) .nil) (fun w I => rname_ok _ w hs) ?_)
  refine co (Ev.not (.t rfl)) ?_
  refine nP ?_
  first | refine condD rfl (fun h0 => ?_) (fun h0 => ?_) | refine cond rfl (fun h0 => ?_) (fun h0 => ?_)
  · refine sg (co (Ev.assign (.c (v := I 201) rfl)) ?_)
    refine nP (ret (pR (done rfl (.tmp rfl .nil) (retE ?_))))
    have p0 : nameB (l.xs.getD i.toNat eMirrorConf.zero).name = false := by simpa using h0
    unfold mirrorE
    rw [if_pos p0]
    rfl
  · refine skip (pN (seq (sg (co (Ev.ldx c ty28 (.t rfl) (Lens.id _)) ?_))))
    refine co (fA 0 (.t rfl)) ?_
    refine co (Ev.ldv ty9 (.t rfl) SMirrorConf.l_name) ?_
    refine cons (callv en128 (.cons (.t rfl) (.cons (.t rfl) .nil)) (fun w I => rmirror_ix c l _ w (hc.keep0 I.keeps)) ?_)
    refine mv rfl (co (Ev.lss_i (.t rfl) (.t rfl)) ?_)
    refine nP ?_
    first | refine condD rfl (fun h1 => ?_) (fun h1 => ?_) | refine cond rfl (fun h1 => ?_) (fun h1 => ?_)
    · refine sg (co (Ev.assign (.c (v := I 2) rfl)) ?_)
      refine nP (ret (pR (done rfl (.tmp rfl .nil) (retE ?_))))
      have n0 : ¬ (nameB (l.xs.getD i.toNat eMirrorConf.zero).name = false) := by simpa using h0
      have p1 : (findV eqs (l.xs.getD i.toNat eMirrorConf.zero).name (mirrorsM l)).getD 0 < i := by rw [hix3]; simpa using h1
      unfold mirrorE
      rw [if_neg n0, if_pos p1]
      rfl
    · refine skip (pN (seq (sg (co (Ev.ldx c ty28 (.t rfl) (Lens.id _)) ?_))))
      refine co (fA 1 (.t rfl)) ?_
      refine co (Ev.ldv ty3 (.t rfl) SMirrorConf.l_out) ?_
      refine cons (callv en122 (.cons (.t rfl) (.cons (.t rfl) .nil)) (fun w I => rport_ok c l _ w (hc.keep0 I.keeps)) ?_)
      refine co (Ev.not (.t rfl)) ?_
      refine nP ?_
      first | refine condD rfl (fun h2 => ?_) (fun h2 => ?_) | refine cond rfl (fun h2 => ?_) (fun h2 => ?_)
      · refine sg (co (Ev.assign (.c (v := I 5) rfl)) ?_)
        refine nP (ret (pR (done rfl (.tmp rfl .nil) (retE ?_))))
        have n0 : ¬ (nameB (l.xs.getD i.toNat eMirrorConf.zero).name = false) := by simpa using h0
        have n1 : ¬ ((findV eqs (l.xs.getD i.toNat eMirrorConf.zero).name (mirrorsM l)).getD 0 < i) := by rw [hix3]; simpa using h1
        have p2 : portB l (l.xs.getD i.toNat eMirrorConf.zero).out = false := by simpa using h2
        unfold mirrorE
        rw [if_neg n0, if_neg n1, if_pos p2]
        rfl
      · refine skip (pN (seq (sg (co (fA 2 (.t rfl)) ?_))))
        refine co (Ev.ldv ty3 (.t rfl) SMirrorConf.l_room) ?_
        refine cons (callv en130 (.cons (.t rfl) .nil) (fun w I => rroom_ok _ w) ?_)
        refine co (Ev.not (.t rfl)) ?_
        refine nP ?_
        first | refine condD rfl (fun h3 => ?_) (fun h3 => ?_) | refine cond rfl (fun h3 => ?_) (fun h3 => ?_)
        · refine sg (co (Ev.assign (.c (v := I 2) rfl)) ?_)
          refine nP (ret (pR (done rfl (.tmp rfl .nil) (retE ?_))))
          have n0 : ¬ (nameB (l.xs.getD i.toNat eMirrorConf.zero).name = false) := by simpa using h0
          have n1 : ¬ ((findV eqs (l.xs.getD i.toNat eMirrorConf.zero).name (mirrorsM l)).getD 0 < i) := by rw [hix3]; simpa using h1
          have n2 : ¬ (portB l (l.xs.getD i.toNat eMirrorConf.zero).out = false) := by simpa using h2
          have p3 : roomB (l.xs.getD i.toNat eMirrorConf.zero).room = false := by simpa using h3
          unfold mirrorE
          rw [if_neg n0, if_neg n1, if_neg n2, if_pos p3]
          rfl
        · refine skip (pN (sg (co (Ev.assign (.c (v := I 0) rfl)) ?_)))
          refine nP (ret (done rfl (.tmp rfl .nil) (retE ?_)))
          have n0 : ¬ (nameB (l.xs.getD i.toNat eMirrorConf.zero).name = false) := by simpa using h0
          have n1 : ¬ ((findV eqs (l.xs.getD i.toNat eMirrorConf.zero).name (mirrorsM l)).getD 0 < i) := by rw [hix3]; simpa using h1
          have n2 : ¬ (portB l (l.xs.getD i.toNat eMirrorConf.zero).out = false) := by simpa using h2
          have n3 : ¬ (roomB (l.xs.getD i.toNat eMirrorConf.zero).room = false) := by simpa using h3
          unfold mirrorE
          rw [if_neg n0, if_neg n1, if_neg n2, if_neg n3]
          rfl
theorem en125 : Gx.Enters Tryz.prog 125 := Gx.Enters.mk' zk
theorem en126 : Gx.Enters Tryz.prog 126 := Gx.Enters.mk' zk
set_option maxRecDepth 8000 in
theorem rckrule_ok (c : SConf) (l : CL) (i : Int) (w : World) (hc : ConfAt w c l) (hi : 0 ≤ i ∧ i < l.us.length) (hn : l.Names) : Calls Tryz.prog 89 #[eConf.val c, I i] w (RetV w (I (ruleE l (l.us.getD i.toNat eRule.zero) i))) := by
  have hle := hc.us.le
  have hs := hn.us (l.us.getD i.toNat eRule.zero) (getD_in _ _ _ (by omega))
  have hix := find_at eqs_iff (fun r => r.name) l.us eRule.zero i.toNat (by omega)
  have hix3 := by
    have hix2 : (findV eqs (l.us.getD i.toNat eRule.zero).name (rulesM l)).getD 0 = idxF (fun z => decide (z.name = (l.us.getD i.toNat eRule.zero).name)) l.us := by
      refine hix.trans (congrArg (fun p => idxF p l.us) (funext fun z => eqs_dec _ _))
    exact hix2
  have hm_meter : inM (metersM l) (l.us.getD i.toNat eRule.zero).meter = decide (¬ idxF (fun z => decide (z.name = (l.us.getD i.toNat eRule.zero).meter)) l.ms < 0) := by
    unfold inM metersM
    rw [find_idx eqs_iff]
    simp only [eqs_dec]
  have hm_mirror : inM (mirrorsM l) (l.us.getD i.toNat eRule.zero).mirror = decide (¬ idxF (fun z => decide (z.name = (l.us.getD i.toNat eRule.zero).mirror)) l.xs < 0) := by
    unfold inM mirrorsM
    rw [find_idx eqs_iff]
    simp only [eqs_dec]
  refine en0 75 Tryz.func89 ?_
  refine sg (cons (box (E := eConf) (.t rfl) (fun b1 => ?_)))
  refine co (Ev.assign (.c (v := I 0) rfl)) ?_
  refine nP (sg (co (fA 2 (.t rfl)) ?_))
  refine co (Ev.ldx c.rules ty24 (.t rfl) SConf.l_rules) ?_
  refine mv rfl (co (Ev.indexAddr Tryz.underlying24 ty113 (.t rfl) (.t rfl) (fun w I => (hc.keep0 I.keeps).us) (fun _ => zo)) ?_)
  refine co (Ev.loadS0 ty113 (.t rfl) (fun w I => (hc.keep0 I.keeps).us) (fun _ => zo)) ?_
  refine cons (alloc z113 (fun b2 => ?_))
  refine cons (stv ty113 (Lens.id _) (.t rfl) (.t rfl) ?_)
  refine nP (seq (sg (co (fA 0 (.t rfl)) ?_)))
  refine co (Ev.ldv ty9 (.t rfl) SRule.l_name) ?_
  refine cons (callv en124 (.cons (.t rfl) .nil) (fun w I => rname_ok _ w hs) ?_)
  refine co (Ev.not (.t rfl)) ?_
  refine nP ?_
  first | refine condD rfl (fun h0 => ?_) (fun h0 => ?_) | refine cond rfl (fun h0 => ?_) (fun h0 => ?_)
  · refine sg (co (Ev.assign (.c (v := I 201) rfl)) ?_)
    refine nP (ret (pR (done rfl (.tmp rfl .nil) (retE ?_))))
    have p0 : nameB (l.us.getD i.toNat eRule.zero).name = false := by simpa using h0
    unfold ruleE
    rw [if_pos p0]
    rfl
  · refine skip (pN (seq (sg (co (Ev.ldx c ty28 (.t rfl) (Lens.id _)) ?_))))
    refine co (fA 0 (.t rfl)) ?_
    refine co (Ev.ldv ty9 (.t rfl) SRule.l_name) ?_
    refine cons (callv en125 (.cons (.t rfl) (.cons (.t rfl) .nil)) (fun w I => rrule_ix c l _ w (hc.keep0 I.keeps)) ?_)
    refine mv rfl (co (Ev.lss_i (.t rfl) (.t rfl)) ?_)
    refine nP ?_
    first | refine condD rfl (fun h1 => ?_) (fun h1 => ?_) | refine cond rfl (fun h1 => ?_) (fun h1 => ?_)
    · refine sg (co (Ev.assign (.c (v := I 2) rfl)) ?_)
      refine nP (ret (pR (done rfl (.tmp rfl .nil) (retE ?_))))
      have n0 : ¬ (nameB (l.us.getD i.toNat eRule.zero).name = false) := by simpa using h0
      have p1 : (findV eqs (l.us.getD i.toNat eRule.zero).name (rulesM l)).getD 0 < i := by rw [hix3]; simpa using h1
      unfold ruleE
      rw [if_neg n0, if_pos p1]
      rfl
    · refine skip (pN (seq (sg (co (fA 1 (.t rfl)) ?_))))
      refine co (Ev.ldv ty111 (.t rfl) SRule.l_match_) ?_
      refine cons (callv en126 (.cons (.t rfl) .nil) (fun w I => rcheck_ok _ w) ?_)
      refine co (Ev.not (.t rfl)) ?_
      refine nP ?_
      first | refine condD rfl (fun h2 => ?_) (fun h2 => ?_) | refine cond rfl (fun h2 => ?_) (fun h2 => ?_)
      · refine sg (co (Ev.assign (.c (v := I 190) rfl)) ?_)
        refine nP (ret (pR (done rfl (.tmp rfl .nil) (retE ?_))))
        have n0 : ¬ (nameB (l.us.getD i.toNat eRule.zero).name = false) := by simpa using h0
        have n1 : ¬ ((findV eqs (l.us.getD i.toNat eRule.zero).name (rulesM l)).getD 0 < i) := by rw [hix3]; simpa using h1
        have p2 : okM (l.us.getD i.toNat eRule.zero).match_ = false := by simpa using h2
        unfold ruleE
        rw [if_neg n0, if_neg n1, if_pos p2]
        rfl
      · refine skip (pN (seq (sg (co (fA 45 (.t rfl)) ?_))))
        refine co (Ev.ldv ty3 (.t rfl) SRule.l_action) ?_
        refine co (Ev.lss_i (.t rfl) (.c (v := I 1) rfl)) ?_
        refine mv rfl (cg rfl rfl (fA 45 (.t rfl)) ?_)
        refine cg rfl rfl (Ev.ldv ty3 (.g rfl id) SRule.l_action) ?_
        refine cg rfl rfl (Ev.gtr_i (.g rfl id) (.c (v := I 4) rfl)) ?_
        refine co (Ev.pkO (.t rfl) rfl) ?_
        refine nP ?_
        first | refine condD rfl (fun h3 => ?_) (fun h3 => ?_) | refine cond rfl (fun h3 => ?_) (fun h3 => ?_)
        · refine sg (co (Ev.assign (.c (v := I 2) rfl)) ?_)
          refine nP (ret (pR (done rfl (.tmp rfl .nil) (retE ?_))))
          have n0 : ¬ (nameB (l.us.getD i.toNat eRule.zero).name = false) := by simpa using h0
          have n1 : ¬ ((findV eqs (l.us.getD i.toNat eRule.zero).name (rulesM l)).getD 0 < i) := by rw [hix3]; simpa using h1
          have n2 : ¬ (okM (l.us.getD i.toNat eRule.zero).match_ = false) := by simpa using h2
          have p3 : (l.us.getD i.toNat eRule.zero).action < 1 ∨ 4 < (l.us.getD i.toNat eRule.zero).action := by simpa using h3
          unfold ruleE
          rw [if_neg n0, if_neg n1, if_neg n2, if_pos p3]
          rfl
        · refine skip (pN (seq (sg (co (fA 45 (.t rfl)) ?_))))
          refine co (Ev.ldv ty3 (.t rfl) SRule.l_action) ?_
          refine co (Ev.eql_i (.t rfl) (.c (v := I 3) rfl)) ?_
          refine mv rfl (cg rfl rfl (Ev.ldx c ty28 (.t rfl) (Lens.id _)) ?_)
          refine cg rfl rfl (fA 46 (.t rfl)) ?_
          refine cg rfl rfl (Ev.ldv ty3 (.g rfl id) SRule.l_out) ?_
          refine cons (callg rfl rfl en122 (.cons (.g rfl id) (.cons (.g rfl id) .nil)) (fun hg w I => rport_ok c l _ w (hc.keep0 I.keeps)) ?_)
          refine cg rfl rfl (Ev.not (.g rfl id)) ?_
          refine co (Ev.pkA (.t rfl) rfl) ?_
          refine mv rfl (cg rfl rfl (fA 45 (.t rfl)) ?_)
          refine cg rfl rfl (Ev.ldv ty3 (.g rfl id) SRule.l_action) ?_
          refine cg rfl rfl (Ev.neq_i (.g rfl id) (.c (v := I 3) rfl)) ?_
          refine cg rfl rfl (Ev.move (.g rfl id)) ?_
          refine cg rfl rfl (fA 46 (.t rfl)) ?_
          refine cg rfl rfl (Ev.ldv ty3 (.g rfl id) SRule.l_out) ?_
          refine cg rfl rfl (Ev.neq_i (.g rfl id) (.c (v := I 0) rfl)) ?_
          refine cg rfl rfl (Ev.pkA (.g rfl id) rfl) ?_
          refine co (Ev.pkO (.t rfl) rfl) ?_
          refine nP ?_
          first | refine condD rfl (fun h4 => ?_) (fun h4 => ?_) | refine cond rfl (fun h4 => ?_) (fun h4 => ?_)
          · refine sg (co (Ev.assign (.c (v := I 5) rfl)) ?_)
            refine nP (ret (pR (done rfl (.tmp rfl .nil) (retE ?_))))
            have n0 : ¬ (nameB (l.us.getD i.toNat eRule.zero).name = false) := by simpa using h0
            have n1 : ¬ ((findV eqs (l.us.getD i.toNat eRule.zero).name (rulesM l)).getD 0 < i) := by rw [hix3]; simpa using h1
            have n2 : ¬ (okM (l.us.getD i.toNat eRule.zero).match_ = false) := by simpa using h2
            have n3 : ¬ ((l.us.getD i.toNat eRule.zero).action < 1 ∨ 4 < (l.us.getD i.toNat eRule.zero).action) := by simpa using h3
            have p4 : ruleO l (l.us.getD i.toNat eRule.zero) = true := by unfold ruleO; by_cases ea : (l.us.getD i.toNat eRule.zero).action = 3 <;> simp_all
            unfold ruleE
            rw [if_neg n0, if_neg n1, if_neg n2, if_neg n3, if_pos p4]
            rfl
          · refine skip (pN (seq (sg (co (fA 47 (.t rfl)) ?_))))
            refine co (Ev.ldv ty9 (.t rfl) SRule.l_meter) ?_
            refine co (Ev.neq_s (.t rfl) (.c (v := (Go.Value.string (ByteArray.mk #[]))) rfl)) ?_
            refine mv rfl (cg rfl rfl (Ev.ldx c ty28 (.t rfl) (Lens.id _)) ?_)
            refine cg rfl rfl (fA 47 (.t rfl)) ?_
            refine cg rfl rfl (Ev.ldv ty9 (.g rfl id) SRule.l_meter) ?_
            refine cons (callg rfl rfl en127 (.cons (.g rfl id) (.cons (.g rfl id) .nil)) (fun hg w I => rmeter_ix c l _ w (hc.keep0 I.keeps)) ?_)
            refine cg rfl rfl (Ev.lss_i (.g rfl id) (.c (v := I 0) rfl)) ?_
            refine co (Ev.pkA (.t rfl) rfl) ?_
            refine mv rfl (cg rfl rfl (fA 48 (.t rfl)) ?_)
            refine cg rfl rfl (Ev.ldv ty9 (.g rfl id) SRule.l_mirror) ?_
            refine cg rfl rfl (Ev.neq_s (.g rfl id) (.c (v := (Go.Value.string (ByteArray.mk #[]))) rfl)) ?_
            refine cg rfl rfl (Ev.move (.g rfl id)) ?_
            refine cg rfl rfl (Ev.ldx c ty28 (.t rfl) (Lens.id _)) ?_
            refine cg rfl rfl (fA 48 (.t rfl)) ?_
            refine cg rfl rfl (Ev.ldv ty9 (.g rfl id) SRule.l_mirror) ?_
            refine cons (callg rfl rfl en128 (.cons (.g rfl id) (.cons (.g rfl id) .nil)) (fun hg w I => rmirror_ix c l _ w (hc.keep0 I.keeps)) ?_)
            refine cg rfl rfl (Ev.lss_i (.g rfl id) (.c (v := I 0) rfl)) ?_
            refine cg rfl rfl (Ev.pkA (.g rfl id) rfl) ?_
            refine co (Ev.pkO (.t rfl) rfl) ?_
            refine nP ?_
            first | refine condD rfl (fun h5 => ?_) (fun h5 => ?_) | refine cond rfl (fun h5 => ?_) (fun h5 => ?_)
            · refine sg (co (Ev.assign (.c (v := I 210) rfl)) ?_)
              refine nP (ret (pR (done rfl (.tmp rfl .nil) (retE ?_))))
              have n0 : ¬ (nameB (l.us.getD i.toNat eRule.zero).name = false) := by simpa using h0
              have n1 : ¬ ((findV eqs (l.us.getD i.toNat eRule.zero).name (rulesM l)).getD 0 < i) := by rw [hix3]; simpa using h1
              have n2 : ¬ (okM (l.us.getD i.toNat eRule.zero).match_ = false) := by simpa using h2
              have n3 : ¬ ((l.us.getD i.toNat eRule.zero).action < 1 ∨ 4 < (l.us.getD i.toNat eRule.zero).action) := by simpa using h3
              have n4 : ¬ (ruleO l (l.us.getD i.toNat eRule.zero) = true) := by unfold ruleO; by_cases ea : (l.us.getD i.toNat eRule.zero).action = 3 <;> simp_all
              have p5 : ((l.us.getD i.toNat eRule.zero).meter ≠ ⟨#[]⟩ ∧ inM (metersM l) (l.us.getD i.toNat eRule.zero).meter = false) ∨ ((l.us.getD i.toNat eRule.zero).mirror ≠ ⟨#[]⟩ ∧ inM (mirrorsM l) (l.us.getD i.toNat eRule.zero).mirror = false) := by rw [hm_meter, hm_mirror]; simpa using h5
              unfold ruleE
              rw [if_neg n0, if_neg n1, if_neg n2, if_neg n3, if_neg n4, if_pos p5]
              rfl
            · refine skip (pN (sg (co (Ev.assign (.c (v := I 0) rfl)) ?_)))
              refine nP (ret (done rfl (.tmp rfl .nil) (retE ?_)))
              have n0 : ¬ (nameB (l.us.getD i.toNat eRule.zero).name = false) := by simpa using h0
              have n1 : ¬ ((findV eqs (l.us.getD i.toNat eRule.zero).name (rulesM l)).getD 0 < i) := by rw [hix3]; simpa using h1
              have n2 : ¬ (okM (l.us.getD i.toNat eRule.zero).match_ = false) := by simpa using h2
              have n3 : ¬ ((l.us.getD i.toNat eRule.zero).action < 1 ∨ 4 < (l.us.getD i.toNat eRule.zero).action) := by simpa using h3
              have n4 : ¬ (ruleO l (l.us.getD i.toNat eRule.zero) = true) := by unfold ruleO; by_cases ea : (l.us.getD i.toNat eRule.zero).action = 3 <;> simp_all
              have n5 : ¬ (((l.us.getD i.toNat eRule.zero).meter ≠ ⟨#[]⟩ ∧ inM (metersM l) (l.us.getD i.toNat eRule.zero).meter = false) ∨ ((l.us.getD i.toNat eRule.zero).mirror ≠ ⟨#[]⟩ ∧ inM (mirrorsM l) (l.us.getD i.toNat eRule.zero).mirror = false)) := by rw [hm_meter, hm_mirror]; simpa using h5
              unfold ruleE
              rw [if_neg n0, if_neg n1, if_neg n2, if_neg n3, if_neg n4, if_neg n5]
              rfl
def szK (l : CL) (k : Nat) : Nat := [l.ps.length, l.rs.length, l.us.length, l.ms.length, l.xs.length].getD k 0
def limK (k : Nat) : Nat := [256, 1024, 256, 64, 16].getD k 0
def thingE (l : CL) (k i : Nat) : Int := if k = 0 then portE l.ps (l.ps.getD i iE.zero) i else if k = 1 then routeE l (l.rs.getD i eRoute.zero) i else if k = 2 then ruleE l (l.us.getD i eRule.zero) i else if k = 3 then meterE l (l.ms.getD i eMeterConf.zero) i else mirrorE l (l.xs.getD i eMirrorConf.zero) i
def baseK (l : CL) : Nat → Int
  | 0 => 0
  | k + 1 => baseK l k + (szK l k : Int)
def kindsF (l : CL) : Nat → List SFault
  | 0 => []
  | k + 1 => kindsF l k ++ listG (thingE l k) (baseK l k) (szK l k) (limK k)
theorem kindsF_all (l : CL) : kindsF l 5 = thingsF l := rfl
theorem baseK_all (l : CL) : baseK l 5 = 0 + (l.ps.length : Int) + l.rs.length + l.us.length + l.ms.length + l.xs.length := rfl
theorem baseK_nn (l : CL) : ∀ k, 0 ≤ baseK l k
  | 0 => Int.le_refl _
  | k + 1 => by have := baseK_nn l k; unfold baseK; omega
theorem baseK_le {l : CL} {n : Nat} (h : l.n ≤ n) : ∀ k, k ≤ 5 → baseK l k ≤ n := by
  intro k hk
  have h5 : baseK l 5 ≤ n := by rw [baseK_all]; unfold CL.n at h; omega
  have a4 : baseK l 5 = baseK l 4 + (szK l 4 : Int) := rfl
  have a3 : baseK l 4 = baseK l 3 + (szK l 3 : Int) := rfl
  have a2 : baseK l 3 = baseK l 2 + (szK l 2 : Int) := rfl
  have a1 : baseK l 2 = baseK l 1 + (szK l 1 : Int) := rfl
  have a0 : baseK l 1 = baseK l 0 + (szK l 0 : Int) := rfl
  have hk2 : k = 0 ∨ k = 1 ∨ k = 2 ∨ k = 3 ∨ k = 4 ∨ k = 5 := by omega
  rcases hk2 with rfl | rfl | rfl | rfl | rfl | rfl <;> omega
theorem lim_le : ∀ k, k < 5 → limK k ≤ 1024 := by
  have : ∀ q : Fin 5, limK q.val ≤ 1024 := by decide
  exact fun k hk => this ⟨k, hk⟩
theorem kindsF_len (l : CL) : ∀ k, k ≤ 5 → (kindsF l k).length ≤ k * 1025
  | 0, _ => by simp [kindsF]
  | k + 1, h => by
    have ih := kindsF_len l k (by omega)
    have hg := listG_len (thingE l k) (baseK l k) (szK l k) (limK k)
    have hl : limK k ≤ 1024 := by
      have : ∀ q : Fin 5, limK q.val ≤ 1024 := by decide
      exact this ⟨k, by omega⟩
    unfold kindsF
    rw [List.length_append]
    omega
theorem sz_vec (l : CL) (k : Nat) (hk : k < 5) : (#v[(l.ps.length : Int), l.rs.length, l.us.length, l.ms.length, l.xs.length] : Vector Int 5)[k] = (szK l k : Int) := by
  have h : k = 0 ∨ k = 1 ∨ k = 2 ∨ k = 3 ∨ k = 4 := by omega
  rcases h with rfl | rfl | rfl | rfl | rfl <;> rfl
theorem lim_vec (k : Nat) (hk : k < 5) : (#v[(256 : Int), 1024, 256, 64, 16] : Vector Int 5)[k] = (limK k : Int) := by
  have h : k = 0 ∨ k = 1 ∨ k = 2 ∨ k = 3 ∨ k = 4 := by omega
  rcases h with rfl | rfl | rfl | rfl | rfl <;> rfl
theorem en87 : Gx.Enters Tryz.prog 87 := Gx.Enters.mk' zk
theorem en88 : Gx.Enters Tryz.prog 88 := Gx.Enters.mk' zk
theorem en89 : Gx.Enters Tryz.prog 89 := Gx.Enters.mk' zk
theorem en90 : Gx.Enters Tryz.prog 90 := Gx.Enters.mk' zk
theorem en91 : Gx.Enters Tryz.prog 91 := Gx.Enters.mk' zk
theorem rthing_ok (c : SConf) (l : CL) (k : Nat) (i : Int) (w : World) (hc : ConfAt w c l) (hn : l.Names) (hk : k < 5) (hi : 0 ≤ i ∧ i < szK l k) : Calls Tryz.prog 64 #[eConf.val c, I (k : Int), I i] w (RetV w (I (thingE l k i.toNat))) := by
  refine en0 31 Tryz.func64 ?_
  refine sg (cons (box (E := eConf) (.t rfl) (fun b1 => ?_)))
  refine co (Ev.assign (.c (v := I 0) rfl)) ?_
  refine nP (seq (sg (mv rfl (nP (block (sg (co (Ev.eql_i (.t rfl) (.c (v := I 0) rfl)) ?_)))))))
  refine asn rfl (nP ?_)
  first | refine condD rfl (fun h0 => ?_) (fun h0 => ?_) | refine cond rfl (fun h0 => ?_) (fun h0 => ?_)
  · try simp only [Gx.nb] at h0
    refine seq ?_
    obtain rfl : k = 0 := by omega
    refine region (co (Ev.ldx c ty28 (.t rfl) (Lens.id _)) ?_)
    refine mv rfl (cons (callv en87 (.cons (.t rfl) (.cons (.t rfl) .nil)) (fun w I => rckport_ok c l _ w (hc.keep0 I.keeps) hi) ?_))
    refine asn rfl (nP (ret (bR (pR (done rfl (.tmp rfl .nil) (retE ?_))))))
    have ei : ((i.toNat : Nat) : Int) = i := by omega
    unfold thingE
    rw [ei]
    first
      | (rw [if_pos (by omega)]; rfl)
      | (rw [if_neg (by omega), if_pos (by omega)]; rfl)
      | (rw [if_neg (by omega), if_neg (by omega), if_pos (by omega)]; rfl)
      | (rw [if_neg (by omega), if_neg (by omega), if_neg (by omega), if_pos (by omega)]; rfl)
      | (rw [if_neg (by omega), if_neg (by omega), if_neg (by omega), if_neg (by omega)]; rfl)
  · try simp only [Gx.nb] at h0
    refine sg (co (Ev.eql_i (.t rfl) (.c (v := I 1) rfl)) ?_)
    refine asn rfl (nP ?_)
    first | refine condD rfl (fun h1 => ?_) (fun h1 => ?_) | refine cond rfl (fun h1 => ?_) (fun h1 => ?_)
    · try simp only [Gx.nb] at h1
      refine seq ?_
      obtain rfl : k = 1 := by omega
      refine region (co (Ev.ldx c ty28 (.t rfl) (Lens.id _)) ?_)
      refine mv rfl (cons (callv en88 (.cons (.t rfl) (.cons (.t rfl) .nil)) (fun w I => rckroute_ok c l _ w (hc.keep0 I.keeps) hi) ?_))
      refine asn rfl (nP (ret (bR (pR (done rfl (.tmp rfl .nil) (retE ?_))))))
      have ei : ((i.toNat : Nat) : Int) = i := by omega
      unfold thingE
      rw [ei]
      first
        | (rw [if_pos (by omega)]; rfl)
        | (rw [if_neg (by omega), if_pos (by omega)]; rfl)
        | (rw [if_neg (by omega), if_neg (by omega), if_pos (by omega)]; rfl)
        | (rw [if_neg (by omega), if_neg (by omega), if_neg (by omega), if_pos (by omega)]; rfl)
        | (rw [if_neg (by omega), if_neg (by omega), if_neg (by omega), if_neg (by omega)]; rfl)
    · try simp only [Gx.nb] at h1
      refine sg (co (Ev.eql_i (.t rfl) (.c (v := I 2) rfl)) ?_)
      refine asn rfl (nP ?_)
      first | refine condD rfl (fun h2 => ?_) (fun h2 => ?_) | refine cond rfl (fun h2 => ?_) (fun h2 => ?_)
      · try simp only [Gx.nb] at h2
        refine seq ?_
        obtain rfl : k = 2 := by omega
        refine region (co (Ev.ldx c ty28 (.t rfl) (Lens.id _)) ?_)
        refine mv rfl (cons (callv en89 (.cons (.t rfl) (.cons (.t rfl) .nil)) (fun w I => rckrule_ok c l _ w (hc.keep0 I.keeps) hi hn) ?_))
        refine asn rfl (nP (ret (bR (pR (done rfl (.tmp rfl .nil) (retE ?_))))))
        have ei : ((i.toNat : Nat) : Int) = i := by omega
        unfold thingE
        rw [ei]
        first
          | (rw [if_pos (by omega)]; rfl)
          | (rw [if_neg (by omega), if_pos (by omega)]; rfl)
          | (rw [if_neg (by omega), if_neg (by omega), if_pos (by omega)]; rfl)
          | (rw [if_neg (by omega), if_neg (by omega), if_neg (by omega), if_pos (by omega)]; rfl)
          | (rw [if_neg (by omega), if_neg (by omega), if_neg (by omega), if_neg (by omega)]; rfl)
      · try simp only [Gx.nb] at h2
        refine sg (co (Ev.eql_i (.t rfl) (.c (v := I 3) rfl)) ?_)
        refine asn rfl (nP ?_)
        first | refine condD rfl (fun h3 => ?_) (fun h3 => ?_) | refine cond rfl (fun h3 => ?_) (fun h3 => ?_)
        · try simp only [Gx.nb] at h3
          refine seq ?_
          obtain rfl : k = 3 := by omega
          refine region (co (Ev.ldx c ty28 (.t rfl) (Lens.id _)) ?_)
          refine mv rfl (cons (callv en90 (.cons (.t rfl) (.cons (.t rfl) .nil)) (fun w I => rckmeter_ok c l _ w (hc.keep0 I.keeps) hi hn) ?_))
          refine asn rfl (nP (ret (bR (pR (done rfl (.tmp rfl .nil) (retE ?_))))))
          have ei : ((i.toNat : Nat) : Int) = i := by omega
          unfold thingE
          rw [ei]
          first
            | (rw [if_pos (by omega)]; rfl)
            | (rw [if_neg (by omega), if_pos (by omega)]; rfl)
            | (rw [if_neg (by omega), if_neg (by omega), if_pos (by omega)]; rfl)
            | (rw [if_neg (by omega), if_neg (by omega), if_neg (by omega), if_pos (by omega)]; rfl)
            | (rw [if_neg (by omega), if_neg (by omega), if_neg (by omega), if_neg (by omega)]; rfl)
        · try simp only [Gx.nb] at h3
          refine skip (bN (pN (seq ?_)))
          obtain rfl : k = 4 := by omega
          refine region (co (Ev.ldx c ty28 (.t rfl) (Lens.id _)) ?_)
          refine mv rfl (cons (callv en91 (.cons (.t rfl) (.cons (.t rfl) .nil)) (fun w I => rckmirror_ok c l _ w (hc.keep0 I.keeps) hi hn) ?_))
          refine asn rfl (nP (ret (done rfl (.tmp rfl .nil) (retE ?_))))
          have ei : ((i.toNat : Nat) : Int) = i := by omega
          unfold thingE
          rw [ei]
          first
            | (rw [if_pos (by omega)]; rfl)
            | (rw [if_neg (by omega), if_pos (by omega)]; rfl)
            | (rw [if_neg (by omega), if_neg (by omega), if_pos (by omega)]; rfl)
            | (rw [if_neg (by omega), if_neg (by omega), if_neg (by omega), if_pos (by omega)]; rfl)
            | (rw [if_neg (by omega), if_neg (by omega), if_neg (by omega), if_neg (by omega)]; rfl)
theorem z165 : (Tryz.prog.info? 165).bind (·.zero) = some ((arrE 5 iE).val (arrE 5 iE).zero) := by kernel_rfl
theorem ty165 : TyOK Tryz.prog 165 (arrE 5 iE) := TyOK.mk' zk zk
theorem en64 : Gx.Enters Tryz.prog 64 := Gx.Enters.mk' zk
set_option maxRecDepth 8000 in
theorem rcheck_conf (c : SConf) (l : CL) (w : World) (hc : ConfAt w c l) (hn : l.Names) (hz : l.n ≤ 4611686018427387904) : Calls Tryz.prog 40 #[eConf.val c] w (RetO w eFault (checkF l c.default) 168) := by
  refine en0 99 Tryz.func40 ?_
  refine sg (cons (box (E := eConf) (.t rfl) (fun b1 => ?_)))
  refine co (Ev.assign (.c (v := (Go.Value.slice none 0 0)) rfl)) ?_
  refine nP (sg (co (fA 0 (.t rfl)) ?_))
  refine co (Ev.ldx c.ports ty22 (.t rfl) SConf.l_ports) ?_
  refine co (Ev.len Tryz.underlying22 (.t rfl) (fun w I => (hc.keep0 I.keeps).ps)) ?_
  refine co (fA 1 (.t rfl)) ?_
  refine co (Ev.ldx c.routes ty23 (.t rfl) SConf.l_routes) ?_
  refine co (Ev.len Tryz.underlying23 (.t rfl) (fun w I => (hc.keep0 I.keeps).rs)) ?_
  refine co (fA 2 (.t rfl)) ?_
  refine co (Ev.ldx c.rules ty24 (.t rfl) SConf.l_rules) ?_
  refine co (Ev.len Tryz.underlying24 (.t rfl) (fun w I => (hc.keep0 I.keeps).us)) ?_
  refine co (fA 3 (.t rfl)) ?_
  refine co (Ev.ldx c.meters ty25 (.t rfl) SConf.l_meters) ?_
  refine co (Ev.len Tryz.underlying25 (.t rfl) (fun w I => (hc.keep0 I.keeps).ms)) ?_
  refine co (fA 4 (.t rfl)) ?_
  refine co (Ev.ldx c.mirrors ty26 (.t rfl) SConf.l_mirrors) ?_
  refine co (Ev.len Tryz.underlying26 (.t rfl) (fun w I => (hc.keep0 I.keeps).xs)) ?_
  refine co (Ev.buildA z165 Tryz.underlying165 ty3 (.cons (.t rfl) (.cons (.t rfl) (.cons (.t rfl) (.cons (.t rfl) (.cons (.t rfl) .nil))))) (Fills.cons (lArr iE 0 (by decide)) rfl (Fills.cons (lArr iE 1 (by decide)) rfl (Fills.cons (lArr iE 2 (by decide)) rfl (Fills.cons (lArr iE 3 (by decide)) rfl (Fills.cons (lArr iE 4 (by decide)) rfl Fills.nil)))))) ?_
  refine cons (alloc z165 (fun b2 => ?_))
  refine cons (stv ty165 (Lens.id _) (.t rfl) (.t rfl) ?_)
  refine nP (sg (co (Ev.buildA z165 Tryz.underlying165 ty3 (.cons (.c (v := I 256) rfl) (.cons (.c (v := I 1024) rfl) (.cons (.c (v := I 256) rfl) (.cons (.c (v := I 64) rfl) (.cons (.c (v := I 16) rfl) .nil))))) (Fills.cons (lArr iE 0 (by decide)) rfl (Fills.cons (lArr iE 1 (by decide)) rfl (Fills.cons (lArr iE 2 (by decide)) rfl (Fills.cons (lArr iE 3 (by decide)) rfl (Fills.cons (lArr iE 4 (by decide)) rfl Fills.nil)))))) ?_))
  refine cons (alloc z165 (fun b3 => ?_))
  refine cons (stv ty165 (Lens.id _) (.t rfl) (.t rfl) ?_)
  refine nP (seq (takeNil eFault 168 ?_))
  refine region (co (Ev.assign (.c (v := (Go.Value.slice none 0 0)) rfl)) ?_)
  refine takeNil eFault 168 ?_
  refine nP (sg (co (Ev.assign (.c (v := I 0) rfl)) ?_))
  refine nP (seq (sg (co (Ev.assign (.c (v := I 0) rfl)) ?_)))
  refine nP (block (lp (X := Nat × OV) (fun x : Nat × OV => (x.1 ≤ 5)) (fun x : Nat × OV => [dz, (1, true, .pointer (some ⟨b1, 0, none⟩)), (3, true, .pointer (some ⟨b2, 0, none⟩)), (4, true, .pointer (some ⟨b3, 0, none⟩)), (5, true, x.2.v), (6, true, I (baseK l x.1)), (7, true, I (x.1 : Int))]) (fun x : Nat × OV => [OwnS x.2.v eFault (kindsF l x.1) 168, Var b3 (arrE 5 iE) (#v[(256 : Int), 1024, 256, 64, 16] : Vector Int 5) 165, Var b2 (arrE 5 iE) (#v[(l.ps.length : Int), l.rs.length, l.us.length, l.ms.length, l.xs.length] : Vector Int 5) 165, Var b1 eConf c 28]) (fun x : Nat × OV => 5 - x.1) (0, nilSl) ?_ (fun x hx => ?_)))
  · omega
  obtain ⟨k, q⟩ := x
  have hk : k ≤ 5 := hx
  clear hx
  show Sat _ _ [dz, (1, true, .pointer (some ⟨b1, 0, none⟩)), (3, true, .pointer (some ⟨b2, 0, none⟩)), (4, true, .pointer (some ⟨b3, 0, none⟩)), (5, true, q.v), (6, true, I (baseK l k)), (7, true, I (k : Int))] [OwnS q.v eFault (kindsF l k) 168, Var b3 (arrE 5 iE) (#v[(256 : Int), 1024, 256, 64, 16] : Vector Int 5) 165, Var b2 (arrE 5 iE) (#v[(l.ps.length : Int), l.rs.length, l.us.length, l.ms.length, l.xs.length] : Vector Int 5) 165, Var b1 eConf c 28]
  have hb0 := baseK_nn l k
  have hbl := baseK_le hz k hk
  refine seq (sg (co (Ev.to (v' := I (k : Int)) (Ev.move (.t rfl)) (rfl)) ?_))
  refine co (Ev.lss_i (.t rfl) (.c (v := I 5) rfl)) ?_
  refine nP ?_
  first | refine condD rfl (fun h0 => ?_) (fun h0 => ?_) | refine cond rfl (fun h0 => ?_) (fun h0 => ?_)
  · try simp only [Gx.nb] at h0
    have hkk : k < 5 := by omega
    have hlm : limK k ≤ 1024 := lim_le k hkk
    have hb1 := baseK_le hz (k + 1) (by omega)
    have hb2 : baseK l (k + 1) = baseK l k + (szK l k : Int) := rfl
    refine skip (pN (seq (block (seq (sg (co (Ev.assign (.c (v := I 0) rfl)) ?_))))))
    refine nP (block (lp (X := Int × OV) (fun x : Int × OV => (0 ≤ x.1 ∧ x.1 ≤ szK l k ∧ x.1 ≤ limK k)) (fun x : Int × OV => [dz, (1, true, .pointer (some ⟨b1, 0, none⟩)), (3, true, .pointer (some ⟨b2, 0, none⟩)), (4, true, .pointer (some ⟨b3, 0, none⟩)), (5, true, x.2.v), (6, true, I (baseK l k)), (7, true, I (k : Int)), (8, true, I x.1)]) (fun x : Int × OV => [OwnS x.2.v eFault (kindsF l k ++ faultsUp (thingE l k) (baseK l k) x.1.toNat) 168, Var b3 (arrE 5 iE) (#v[(256 : Int), 1024, 256, 64, 16] : Vector Int 5) 165, Var b2 (arrE 5 iE) (#v[(l.ps.length : Int), l.rs.length, l.us.length, l.ms.length, l.xs.length] : Vector Int 5) 165, Var b1 eConf c 28]) (fun x : Int × OV => ((szK l k : Int) - x.1).toNat) (0, q) ?_ (fun x hx => ?_) (hL := (by simp only [show (0 : Int).toNat = 0 from rfl, faultsUp, List.append_nil]; repeat first | exact sR | exact sN | apply sC | apply sS | apply sA))))
    · omega
    obtain ⟨i, q1⟩ := x
    have hi : 0 ≤ i ∧ i ≤ szK l k ∧ i ≤ limK k := hx
    clear hx
    show Sat _ _ [dz, (1, true, .pointer (some ⟨b1, 0, none⟩)), (3, true, .pointer (some ⟨b2, 0, none⟩)), (4, true, .pointer (some ⟨b3, 0, none⟩)), (5, true, q1.v), (6, true, I (baseK l k)), (7, true, I (k : Int)), (8, true, I i)] [OwnS q1.v eFault (kindsF l k ++ faultsUp (thingE l k) (baseK l k) i.toNat) 168, Var b3 (arrE 5 iE) (#v[(256 : Int), 1024, 256, 64, 16] : Vector Int 5) 165, Var b2 (arrE 5 iE) (#v[(l.ps.length : Int), l.rs.length, l.us.length, l.ms.length, l.xs.length] : Vector Int 5) 165, Var b1 eConf c 28]
    refine seq (sg (mv rfl (mv rfl (co (Ev.indexAddrA0 Tryz.underlying165 ty3 (.t rfl) (.t rfl) (fun _ => zo)) ?_))))
    refine co (Ev.to (v' := I (szK l k : Nat)) (Ev.ldv ty3 (.t rfl) (lArr (n := 5) iE _ (by omega))) (congrArg I (sz_vec l k hkk))) ?_
    refine co (Ev.lss_i (.t rfl) (.t rfl)) ?_
    refine mv rfl (cg rfl rfl (Ev.move (.t rfl)) ?_)
    refine cg rfl rfl (Ev.move (.t rfl)) ?_
    refine cg rfl rfl (Ev.indexAddrA0 Tryz.underlying165 ty3 (.t rfl) (.g rfl id) (fun _ => by first | omega | (rename_i hg; simp at hg; omega))) ?_
    refine cg rfl rfl (Ev.to (v' := I (limK k : Nat)) (Ev.ldv ty3 (.g rfl id) (lArr (n := 5) iE _ (by first | omega | (rename_i hg; simp at hg; omega)))) (congrArg I (lim_vec k hkk))) ?_
    refine cg rfl rfl (Ev.lss_i (.g rfl id) (.g rfl id)) ?_
    refine co (Ev.pkA (.t rfl) rfl) ?_
    refine nP ?_
    first | refine condD rfl (fun h1 => ?_) (fun h1 => ?_) | refine cond rfl (fun h1 => ?_) (fun h1 => ?_)
    · try simp only [Gx.nb] at h1
      refine skip (pN (seq (block (sg (co (Ev.ldx c ty28 (.t rfl) (Lens.id _)) ?_)))))
      refine mv rfl (mv rfl (cons (callv en64 (.cons (.t rfl) (.cons (.t rfl) (.cons (.t rfl) .nil))) (fun w I => rthing_ok c l k _ w (hc.keep0 I.keeps) hn hkk (by omega)) ?_)))
      refine asn rfl (nP (sg (mv rfl (co (Ev.neq_i (.t rfl) (.c (v := I 0) rfl)) ?_))))
      refine nP ?_
      first | refine condD rfl (fun h2 => ?_) (fun h2 => ?_) | refine cond rfl (fun h2 => ?_) (fun h2 => ?_)
      · try simp only [Gx.nb] at h2
        have hst := faultsUp_bad (e := thingE l k) (d := baseK l k) hi.1 h2
        refine region (mv rfl (mv rfl (mv rfl (mv rfl (co (Ev.add_i (.t rfl) (.t rfl) (fun _ => zo)) ?_)))))
        refine co (Ev.buildS (fs := _) (places := [(0, 1), (1, 1)]) z168 rfl Tryz.underlying168 zk (.cons (.t rfl) (.cons (.t rfl) .nil)) (Fills.cons SFault.l_code rfl (Fills.cons SFault.l_at_ rfl Fills.nil))) ?_
        refine cons (buildSlice (E := eFault) Tryz.underlying119 ty168 z168 (.cons (.t rfl) .nil) rfl rfl (fun v4 => ?_))
        refine cons (app (E := eFault) Tryz.underlying119 ty168 zb168 zs168 (.t rfl) (.t rfl) (fun v5 => ?_) (hby := ⟨by (show _ ≤ 9223372036854775807); have h1l := kindsF_len l k (by omega); have h2l := faultsUp_len (thingE l k) (baseK l k) i.toNat; simp only [List.length_append, List.length_cons, List.length_nil]; omega, by have h1l := kindsF_len l k (by omega); have h2l := faultsUp_len (thingE l k) (baseK l k) i.toNat; simp only [List.length_append, List.length_cons, List.length_nil]; omega⟩))
        refine asn rfl (nil (bN (pN (region (mv rfl (co (Ev.add_i (.t rfl) (.c (v := I 1) rfl) (fun _ => zo)) ?_))))))
        refine asn rfl (nP (nx (X := Int × OV) (i + 1, _) ?_ ?_ (hL := (by rw [hst]; (try rw [← List.append_assoc]); repeat first | exact sR | exact sN | apply sC | apply sS | apply sA))))
        · try dsimp only
          omega
        · try dsimp only
          omega
      · try simp only [Gx.nb] at h2
        have hst := faultsUp_ok (e := thingE l k) (d := baseK l k) hi.1 h2
        refine skip (bN (pN (region (mv rfl (co (Ev.add_i (.t rfl) (.c (v := I 1) rfl) (fun _ => zo)) ?_)))))
        refine asn rfl (nP (nx (X := Int × OV) (i + 1, _) ?_ ?_ (hL := (by rw [hst]; (try rw [← List.append_assoc]); repeat first | exact sR | exact sN | apply sC | apply sS | apply sA))))
        · try dsimp only
          omega
        · try dsimp only
          omega
    · try simp only [Gx.nb] at h1
      refine exit (pX (pX (bX (pN (seq (seq ?_))))))
      have him : i.toNat = min (szK l k) (limK k) := by omega
      rw [him]
      refine draw' zk ?_
      refine tk 0 rfl (Ev.move (.t rfl)) ?_
      refine tk 1 rfl (Ev.indexAddrA0 Tryz.underlying165 ty3 (.t rfl) (.t rfl) (fun _ => zo)) ?_
      refine tk 2 rfl (Ev.to (v' := I (szK l k : Nat)) (Ev.ldv ty3 (.t rfl) (lArr (n := 5) iE _ (by omega))) (congrArg I (sz_vec l k hkk))) ?_
      refine tk 3 rfl (Ev.move (.t rfl)) ?_
      refine tk 4 rfl (Ev.indexAddrA0 Tryz.underlying165 ty3 (.t rfl) (.t rfl) (fun _ => zo)) ?_
      refine tk 5 rfl (Ev.to (v' := I (limK k : Nat)) (Ev.ldv ty3 (.t rfl) (lArr (n := 5) iE _ (by omega))) (congrArg I (lim_vec k hkk))) ?_
      refine tk 6 rfl (Ev.gtr_i (.t rfl) (.t rfl)) ?_
      refine ovr (pN ?_)
      first | refine condD rfl (fun h3 => ?_) (fun h3 => ?_) | refine cond rfl (fun h3 => ?_) (fun h3 => ?_)
      · try simp only [Gx.nb] at h3
        refine region (mv rfl (mv rfl (mv rfl (co (Ev.indexAddrA0 Tryz.underlying165 ty3 (.t rfl) (.t rfl) (fun _ => zo)) ?_))))
        refine co (Ev.to (v' := I (limK k : Nat)) (Ev.ldv ty3 (.t rfl) (lArr (n := 5) iE _ (by omega))) (congrArg I (lim_vec k hkk))) ?_
        refine co (Ev.add_i (.t rfl) (.t rfl) (fun _ => zo)) ?_
        refine co (Ev.buildS (fs := _) (places := [(0, 1), (1, 1)]) z168 rfl Tryz.underlying168 zk (.cons (.c (v := I 4) rfl) (.cons (.t rfl) .nil)) (Fills.cons SFault.l_code rfl (Fills.cons SFault.l_at_ rfl Fills.nil))) ?_
        refine cons (buildSlice (E := eFault) Tryz.underlying119 ty168 z168 (.cons (.t rfl) .nil) rfl rfl (fun v6 => ?_))
        refine cons (app (E := eFault) Tryz.underlying119 ty168 zb168 zs168 (.t rfl) (.t rfl) (fun v7 => ?_) (hby := ⟨by (show _ ≤ 9223372036854775807); have h1l := kindsF_len l k (by omega); have h2l := faultsUp_len (thingE l k) (baseK l k) (min (szK l k) (limK k)); simp only [List.length_append, List.length_cons, List.length_nil]; omega, by have h1l := kindsF_len l k (by omega); have h2l := faultsUp_len (thingE l k) (baseK l k) (min (szK l k) (limK k)); simp only [List.length_append, List.length_cons, List.length_nil]; omega⟩))
        refine asn rfl (nP (region (mv rfl (mv rfl (co (Ev.indexAddrA0 Tryz.underlying165 ty3 (.t rfl) (.t rfl) (fun _ => zo)) ?_)))))
        refine co (Ev.to (v' := I (szK l k : Nat)) (Ev.ldv ty3 (.t rfl) (lArr (n := 5) iE _ (by omega))) (congrArg I (sz_vec l k hkk))) ?_
        refine co (Ev.add_i (.t rfl) (.t rfl) (fun _ => zo)) ?_
        refine asn rfl (nil (bN (pN (region (mv rfl (co (Ev.add_i (.t rfl) (.c (v := I 1) rfl) (fun _ => zo)) ?_))))))
        refine asn rfl (nP (nx (X := Nat × OV) (k + 1, _) ?_ ?_ (hL := (by rw [show kindsF l (k + 1) = kindsF l k ++ listG (thingE l k) (baseK l k) (szK l k) (limK k) from rfl]; unfold listG; (first | rw [if_pos (by omega), ← List.append_assoc] | rw [if_neg (by omega), List.append_nil]); repeat first | exact sR | exact sN | apply sC | apply sS | apply sA))))
        · try dsimp only
          omega
        · try dsimp only
          omega
      · try simp only [Gx.nb] at h3
        refine skip (pN (region (mv rfl (mv rfl (co (Ev.indexAddrA0 Tryz.underlying165 ty3 (.t rfl) (.t rfl) (fun _ => zo)) ?_)))))
        refine co (Ev.to (v' := I (szK l k : Nat)) (Ev.ldv ty3 (.t rfl) (lArr (n := 5) iE _ (by omega))) (congrArg I (sz_vec l k hkk))) ?_
        refine co (Ev.add_i (.t rfl) (.t rfl) (fun _ => zo)) ?_
        refine asn rfl (nil (bN (pN (region (mv rfl (co (Ev.add_i (.t rfl) (.c (v := I 1) rfl) (fun _ => zo)) ?_))))))
        refine asn rfl (nP (nx (X := Nat × OV) (k + 1, _) ?_ ?_ (hL := (by rw [show kindsF l (k + 1) = kindsF l k ++ listG (thingE l k) (baseK l k) (szK l k) (limK k) from rfl]; unfold listG; (first | rw [if_pos (by omega), ← List.append_assoc] | rw [if_neg (by omega), List.append_nil]); repeat first | exact sR | exact sN | apply sC | apply sS | apply sA))))
        · try dsimp only
          omega
        · try dsimp only
          omega
  · try simp only [Gx.nb] at h0
    obtain rfl : k = 5 := by omega
    refine exit (pX (pX (bX (pN (cut (X := OV) (fun x : OV => True) (fun x : OV => [dz, (5, true, x.v)]) (fun x : OV => [OwnS x.v eFault (checkF l c.default) 168]) ?_ (fun x hx => ?_))))))
    · refine seq ?_
      rw [kindsF_all, baseK_all]
      refine region (co (fA 5 (.t rfl)) ?_)
      refine co (Ev.ldx c.default ty3 (.t rfl) SConf.l_default) ?_
      refine co (Ev.neq_i (.t rfl) (.c (v := I 1) rfl)) ?_
      refine mv rfl (cg rfl rfl (fA 5 (.t rfl)) ?_)
      refine cg rfl rfl (Ev.ldx c.default ty3 (.g rfl id) SConf.l_default) ?_
      refine cg rfl rfl (Ev.neq_i (.g rfl id) (.c (v := I 2) rfl)) ?_
      refine co (Ev.pkA (.t rfl) rfl) ?_
      refine mv rfl (cg rfl rfl (fA 5 (.t rfl)) ?_)
      refine cg rfl rfl (Ev.ldx c.default ty3 (.g rfl id) SConf.l_default) ?_
      refine cg rfl rfl (Ev.neq_i (.g rfl id) (.c (v := I 4) rfl)) ?_
      refine co (Ev.pkA (.t rfl) rfl) ?_
      refine nP ?_
      first | refine condD rfl (fun h4 => ?_) (fun h4 => ?_) | refine cond rfl (fun h4 => ?_) (fun h4 => ?_)
      · have hdb : defBad c.default = true := (defBad_eq _).trans h4
        refine region (mv rfl (mv rfl (co (Ev.buildS (fs := _) (places := [(0, 1), (1, 1)]) z168 rfl Tryz.underlying168 zk (.cons (.c (v := I 2) rfl) (.cons (.t rfl) .nil)) (Fills.cons SFault.l_code rfl (Fills.cons SFault.l_at_ rfl Fills.nil))) ?_)))
        refine cons (buildSlice (E := eFault) Tryz.underlying119 ty168 z168 (.cons (.t rfl) .nil) rfl rfl (fun v8 => ?_))
        refine cons (app (E := eFault) Tryz.underlying119 ty168 zb168 zs168 (.t rfl) (.t rfl) (fun v9 => ?_) (hby := ⟨by (show _ ≤ 9223372036854775807); have := thingsF_len l; simp only [List.length_cons, List.length_nil]; omega, by have := thingsF_len l; simp only [List.length_cons, List.length_nil]; omega⟩))
        refine asn rfl (nP (mt (X := OV) (_) trivial (hL := (by unfold checkF; (first | rw [if_pos hdb] | rw [if_neg hdb, List.append_nil]); repeat first | exact sR | exact sN | apply sC | apply sS | apply sA))))
      · have hdb : ¬ defBad c.default = true := by rw [show defBad c.default = false from (defBad_eq _).trans h4]; exact Bool.false_ne_true
        refine skip (pN (mt (X := OV) (_) trivial (hL := (by unfold checkF; (first | rw [if_pos hdb] | rw [if_neg hdb, List.append_nil]); repeat first | exact sR | exact sN | apply sC | apply sS | apply sA))))
    obtain ⟨q2, rfl⟩ : ∃ y, y = x := ⟨x, rfl⟩
    show Sat _ _ [dz, (5, true, q2.v)] [OwnS q2.v eFault (checkF l c.default) 168]
    refine sg (mv rfl (asn rfl (nP (ret (done rfl (.tmp rfl .nil) (retOE zm ?_))))))
    rfl
theorem en40 : Gx.Enters Tryz.prog 40 := Gx.Enters.mk' zk
theorem rmay_ok (c : SConf) (l : CL) (w : World) (hc : ConfAt w c l) (hn : l.Names) (hz : l.n ≤ 4611686018427387904) : Calls Tryz.prog 22 #[eConf.val c] w (RetV w (.bool (mayB l c.default))) := by
  refine en0 7 Tryz.func22 ?_
  refine sg (cons (box (E := eConf) (.t rfl) (fun b1 => ?_)))
  refine co (Ev.assign (.c (v := .bool false) rfl)) ?_
  refine nP (sg (co (Ev.ldx c ty28 (.t rfl) (Lens.id _)) ?_))
  refine cons (callo en40 (.cons (.t rfl) .nil) (fun w I => rcheck_conf c l w (hc.keep0 I.keeps) hn hz) (fun v2 => ?_))
  refine co (Ev.len Tryz.underlying119 (.t rfl) zf) ?_
  refine co (Ev.eql_i (.t rfl) (.c (v := I 0) rfl)) ?_
  refine asn rfl (nP (ret (done rfl (.tmp rfl .nil) (retE ?_))))
  unfold mayB
  refine congrArg Value.bool ?_
  rw [Bool.eq_iff_iff, decide_eq_true_iff, decide_eq_true_iff, ← List.length_eq_zero_iff]
  omega
structure CL.Fits (l : CL) : Prop where
  ps : l.ps.length * 8 ≤ 140737488351232
  rs : l.rs.length * 40 ≤ 140737488351232
  us : l.us.length * 152 ≤ 140737488351232
  ms : l.ms.length * 40 ≤ 140737488351232
  xs : l.xs.length * 32 ≤ 140737488351232
theorem rcopy_big (c : SConf) (l : CL) (w : World) (hc : ConfAt w c l) (hs : l.Fits) : Calls Tryz.prog 9 #[eConf.val c] w (RetN w (fun _ : CB => True) (fun x => eConf.val (x.c c.default)) (fun x => x.R l)) := by
  obtain ⟨hl0, hl1, hl2, hl3, hl4⟩ := hs
  refine en0 38 Tryz.func9 ?_
  refine sg (cons (box (E := eConf) (.t rfl) (fun b1 => ?_)))
  refine cons (alloc z28 (fun b2 => ?_))
  refine nP (sg (co (fA 5 (.t rfl)) ?_))
  refine co (Ev.ldx c.default ty3 (.t rfl) SConf.l_default) ?_
  refine co (Ev.buildS (fs := _) (places := [(0, 1), (1, 1), (2, 1), (3, 1), (4, 1), (5, 1)]) z28 rfl Tryz.underlying28 zk (.cons (.t rfl) .nil) (Fills.cons SConf.l_default rfl Fills.nil)) ?_
  refine cons (alloc z28 (fun b3 => ?_))
  refine cons (stv ty28 (Lens.id _) (.t rfl) (.t rfl) ?_)
  refine nP (seq (takeNil iE 3 ?_))
  refine region (co (fA 0 (.t rfl)) ?_)
  refine co (Ev.ldv ty22 (.t rfl) SConf.l_ports) ?_
  refine co (fA 0 (.t rfl)) ?_
  refine co (Ev.ldx c.ports ty22 (.t rfl) SConf.l_ports) ?_
  refine cons (app (E := iE) Tryz.underlying22 ty3 zb3 zs3 (.t rfl) (.t rfl) (fun v4 => ?_) (hsrc := (fun w I => (hc.keep0 I.keeps).ps)) (hby := ⟨by (show _ ≤ 9223372036854775807); simp only [List.length_nil]; omega, by simp only [List.length_nil]; omega⟩))
  refine co (fA 0 (.t rfl)) ?_
  refine cons (stv ty22 SConf.l_ports (.t rfl) (.t rfl) ?_)
  refine nP (seq (takeNil eRoute 172 ?_))
  refine region (co (fA 1 (.t rfl)) ?_)
  refine co (Ev.ldv ty23 (.t rfl) SConf.l_routes) ?_
  refine co (fA 1 (.t rfl)) ?_
  refine co (Ev.ldx c.routes ty23 (.t rfl) SConf.l_routes) ?_
  refine cons (app (E := eRoute) Tryz.underlying23 ty172 zb172 zs172 (.t rfl) (.t rfl) (fun v5 => ?_) (hsrc := (fun w I => (hc.keep0 I.keeps).rs)) (hby := ⟨by (show _ ≤ 9223372036854775807); simp only [List.length_nil]; omega, by simp only [List.length_nil]; omega⟩))
  refine co (fA 1 (.t rfl)) ?_
  refine cons (stv ty23 SConf.l_routes (.t rfl) (.t rfl) ?_)
  refine nP (seq (takeNil eRule 113 ?_))
  refine region (co (fA 2 (.t rfl)) ?_)
  refine co (Ev.ldv ty24 (.t rfl) SConf.l_rules) ?_
  refine co (fA 2 (.t rfl)) ?_
  refine co (Ev.ldx c.rules ty24 (.t rfl) SConf.l_rules) ?_
  refine cons (app (E := eRule) Tryz.underlying24 ty113 zb113 zs113 (.t rfl) (.t rfl) (fun v6 => ?_) (hsrc := (fun w I => (hc.keep0 I.keeps).us)) (hby := ⟨by (show _ ≤ 9223372036854775807); simp only [List.length_nil]; omega, by simp only [List.length_nil]; omega⟩))
  refine co (fA 2 (.t rfl)) ?_
  refine cons (stv ty24 SConf.l_rules (.t rfl) (.t rfl) ?_)
  refine nP (seq (takeNil eMeterConf 134 ?_))
  refine region (co (fA 3 (.t rfl)) ?_)
  refine co (Ev.ldv ty25 (.t rfl) SConf.l_meters) ?_
  refine co (fA 3 (.t rfl)) ?_
  refine co (Ev.ldx c.meters ty25 (.t rfl) SConf.l_meters) ?_
  refine cons (app (E := eMeterConf) Tryz.underlying25 ty134 zb134 zs134 (.t rfl) (.t rfl) (fun v7 => ?_) (hsrc := (fun w I => (hc.keep0 I.keeps).ms)) (hby := ⟨by (show _ ≤ 9223372036854775807); simp only [List.length_nil]; omega, by simp only [List.length_nil]; omega⟩))
  refine co (fA 3 (.t rfl)) ?_
  refine cons (stv ty25 SConf.l_meters (.t rfl) (.t rfl) ?_)
  refine nP (seq (takeNil eMirrorConf 136 ?_))
  refine region (co (fA 4 (.t rfl)) ?_)
  refine co (Ev.ldv ty26 (.t rfl) SConf.l_mirrors) ?_
  refine co (fA 4 (.t rfl)) ?_
  refine co (Ev.ldx c.mirrors ty26 (.t rfl) SConf.l_mirrors) ?_
  refine cons (app (E := eMirrorConf) Tryz.underlying26 ty136 zb136 zs136 (.t rfl) (.t rfl) (fun v8 => ?_) (hsrc := (fun w I => (hc.keep0 I.keeps).xs)) (hby := ⟨by (show _ ≤ 9223372036854775807); simp only [List.length_nil]; omega, by simp only [List.length_nil]; omega⟩))
  refine co (fA 4 (.t rfl)) ?_
  refine cons (stv ty26 SConf.l_mirrors (.t rfl) (.t rfl) ?_)
  refine nP (sg (co (Ev.ldv ty28 (.t rfl) (Lens.id _)) ?_))
  refine cons (stv ty28 (Lens.id _) (.t rfl) (.t rfl) ?_)
  refine nP (ret (done rfl (.cell rfl (fun w I => run_loadVar_pts ty28 (ptsVar zm (Lens.id _) w I)) .nil) (fun w I => ?_)))
  exact retNP (⟨v4, v5, v6, v7, v8⟩ : CB) trivial rfl (by repeat first | exact SubP.nil | refine SubP.cons zr ?_) w I
end Go.Proofs.YtakmoeladkajdaaGreat
namespace Go.Proofs.YtakmoeladkajdaaGreat
open Go Go.Gx Go.Proofs.YtakmoeladkajdaaGreat.Tri Go.Proofs.YtakmoeladkajdaaGreat.Oc
structure SLaw31Plan where
  old : SConf
  new : SConf
  stages : OV
def SLaw31Plan.to : (SConf × (SConf × OV)) → SLaw31Plan := fun x => ⟨x.1, x.2.1, x.2.2⟩
def SLaw31Plan.of : SLaw31Plan → (SConf × (SConf × OV)) := fun x => (x.old, x.new, x.stages)
def eLaw31Plan : Enc SLaw31Plan := isoE (prodE eConf (prodE eConf (ovE nilSl))) SLaw31Plan.to SLaw31Plan.of
def SLaw31Plan.l_old : Lens eLaw31Plan eConf 0 := lIso _ SLaw31Plan.to SLaw31Plan.of (fun _ => rfl) (lFst eConf (prodE eConf (ovE nilSl)))
@[simp] theorem SLaw31Plan.get_old (x : SLaw31Plan) : SLaw31Plan.l_old.get x = x.old := rfl
@[simp] theorem SLaw31Plan.set_old (x : SLaw31Plan) (y : SConf) : SLaw31Plan.l_old.set x y = { x with old := y } := rfl
def SLaw31Plan.l_new : Lens eLaw31Plan eConf 6 := lIso _ SLaw31Plan.to SLaw31Plan.of (fun _ => rfl) (Lens.comp (lSnd eConf (prodE eConf (ovE nilSl))) (lFst eConf (ovE nilSl)))
@[simp] theorem SLaw31Plan.get_new (x : SLaw31Plan) : SLaw31Plan.l_new.get x = x.new := rfl
@[simp] theorem SLaw31Plan.set_new (x : SLaw31Plan) (y : SConf) : SLaw31Plan.l_new.set x y = { x with new := y } := rfl
def SLaw31Plan.l_stages : Lens eLaw31Plan (ovE nilSl) 12 := lIso _ SLaw31Plan.to SLaw31Plan.of (fun _ => rfl) (Lens.comp (lSnd eConf (prodE eConf (ovE nilSl))) (Lens.comp (lSnd eConf (ovE nilSl)) (Lens.id (ovE nilSl))))
@[simp] theorem SLaw31Plan.get_stages (x : SLaw31Plan) : SLaw31Plan.l_stages.get x = x.stages := rfl
@[simp] theorem SLaw31Plan.set_stages (x : SLaw31Plan) (y : OV) : SLaw31Plan.l_stages.set x y = { x with stages := y } := rfl
set_option maxRecDepth 8000 in
theorem rstages_ok (u : Value) (l : List SStage) (w : World) (hu : IsSl eStage w u l) : Calls Tryz.prog 7 #[u] w (RetV w (.bool (stagesB l 0 && decide (0 < l.length)))) := by
  have hle := hu.le
  refine en0 45 Tryz.func7 ?_
  refine sg (co (Ev.assign (.c (v := .bool false) rfl)) ?_)
  refine nP (sg (co (Ev.assign (.c (v := I 0) rfl)) ?_))
  refine nP (seq (sg (co (Ev.assign (.c (v := I 0) rfl)) ?_)))
  refine nP (block (lp (X := Int × Int) (fun x : Int × Int => (0 ≤ x.1 ∧ x.1 ≤ l.length) ∧ (stagesB (l.drop x.1.toNat) x.2 = stagesB l 0)) (fun x : Int × Int => [dz, (0, true, u), (3, true, I x.2), (4, true, I x.1)]) (fun x : Int × Int => []) (fun x : Int × Int => ((l.length : Int) - x.1).toNat) (0, 0) ⟨?_, ?_⟩ (fun x hx => ?_)))
  · omega
  · rfl
  obtain ⟨i, last⟩ := x
  obtain ⟨hi, hs⟩ : (0 ≤ i ∧ i ≤ l.length) ∧ (stagesB (l.drop i.toNat) last = stagesB l 0) := hx
  show Sat _ _ [dz, (0, true, u), (3, true, I last), (4, true, I i)] []
  refine seq (sg (mv rfl (mv rfl (co (Ev.len Tryz.underlying29 (.t rfl) (fun w I => hu.keep0 I.keeps)) ?_))))
  refine co (Ev.lss_i (.t rfl) (.t rfl)) ?_
  refine nP ?_
  first | refine condD rfl (fun h0 => ?_) (fun h0 => ?_) | refine cond rfl (fun h0 => ?_) (fun h0 => ?_)
  · try simp only [Gx.nb] at h0
    refine skip (pN (seq (block (sg (mv rfl (mv rfl (co (Ev.indexAddr Tryz.underlying29 ty37 (.t rfl) (.t rfl) (fun w I => hu.keep0 I.keeps) (fun _ => zo)) ?_)))))))
    refine co (Ev.loadS0 ty37 (.t rfl) (fun w I => hu.keep0 I.keeps) (fun _ => zo)) ?_
    refine cons (alloc z37 (fun b1 => ?_))
    refine cons (stv ty37 (Lens.id _) (.t rfl) (.t rfl) ?_)
    refine nP (seq (sg (co (fA 0 (.t rfl)) ?_)))
    refine co (Ev.ldv ty3 (.t rfl) SStage.l_parts) ?_
    refine mv rfl (co (Ev.leq_i (.t rfl) (.t rfl)) ?_)
    refine mv rfl (cg rfl rfl (fA 0 (.t rfl)) ?_)
    refine cg rfl rfl (Ev.ldv ty3 (.g rfl id) SStage.l_parts) ?_
    refine cg rfl rfl (Ev.gtr_i (.g rfl id) (.c (v := I 100) rfl)) ?_
    refine co (Ev.pkO (.t rfl) rfl) ?_
    refine mv rfl (cg rfl rfl (fA 1 (.t rfl)) ?_)
    refine cg rfl rfl (Ev.ldv ty35 (.g rfl id) SStage.l_wait) ?_
    refine cg rfl rfl (Ev.lss_u64 (.g rfl id) (.c (v := U64 1) rfl)) ?_
    refine co (Ev.pkO (.t rfl) rfl) ?_
    refine mv rfl (cg rfl rfl (fA 1 (.t rfl)) ?_)
    refine cg rfl rfl (Ev.ldv ty35 (.g rfl id) SStage.l_wait) ?_
    refine cg rfl rfl (Ev.gtr_u64 (.g rfl id) (.c (v := U64 1048576) rfl)) ?_
    refine co (Ev.pkO (.t rfl) rfl) ?_
    refine mv rfl (cg rfl rfl (fA 2 (.t rfl)) ?_)
    refine cg rfl rfl (Ev.ldv ty35 (.g rfl id) SStage.l_most) ?_
    refine cg rfl rfl (Ev.gtr_u64 (.g rfl id) (.c (v := U64 1048576) rfl)) ?_
    refine co (Ev.pkO (.t rfl) rfl) ?_
    refine nP ?_
    first | refine condD rfl (fun h1 => ?_) (fun h1 => ?_) | refine cond rfl (fun h1 => ?_) (fun h1 => ?_)
    · have hst : (decide ((l.getD i.toNat eStage.zero).parts ≤ last) || decide (100 < (l.getD i.toNat eStage.zero).parts) || decide ((l.getD i.toNat eStage.zero).wait < 1) || decide (1048576 < (l.getD i.toNat eStage.zero).wait) || decide (1048576 < (l.getD i.toNat eStage.zero).most)) = true := h1
      refine sg (co (Ev.assign (.c (v := .bool false) rfl)) ?_)
      refine nP (ret (pR (bR (pR (pR (bR (pR (done rfl (.tmp rfl .nil) (retE ?_)))))))))
      have e : stagesB l 0 = false := by
        rw [← hs, stages_step l i.toNat last (by omega)]
        unfold stageB
        rw [hst]
        rfl
      rw [e]; rfl
    · have hst : (decide ((l.getD i.toNat eStage.zero).parts ≤ last) || decide (100 < (l.getD i.toNat eStage.zero).parts) || decide ((l.getD i.toNat eStage.zero).wait < 1) || decide (1048576 < (l.getD i.toNat eStage.zero).wait) || decide (1048576 < (l.getD i.toNat eStage.zero).most)) = false := h1
      refine skip (pN (region (co (fA 0 (.t rfl)) ?_)))
      refine co (Ev.ldv ty3 (.t rfl) SStage.l_parts) ?_
      refine asn rfl (nil (bN (pN (region (mv rfl (co (Ev.add_i (.t rfl) (.c (v := I 1) rfl) (fun _ => zo)) ?_))))))
      refine asn rfl (nP (nx (X := Int × Int) (i + 1, _) ⟨?_, ?_⟩ ?_))
      · try dsimp only
        omega
      · try dsimp only
        rw [show (i + 1).toNat = i.toNat + 1 by omega, ← hs, stages_step l i.toNat last (by omega)]
        have e : stageB (l.getD i.toNat eStage.zero) last = true := by unfold stageB; rw [hst]; rfl
        rw [e, Bool.true_and]; rfl
      · try dsimp only
        omega
  · try simp only [Gx.nb] at h0
    refine exit (pX (pX (bX (pN (sg (mv rfl (co (Ev.len Tryz.underlying29 (.t rfl) (fun w I => hu.keep0 I.keeps)) ?_)))))))
    refine co (Ev.gtr_i (.t rfl) (.c (v := I 0) rfl)) ?_
    refine asn rfl (nP (ret (done rfl (.tmp rfl .nil) (retE ?_))))
    have e : i.toNat = l.length := by omega
    rw [e, List.drop_length] at hs
    rw [← hs]
    simp [stagesB]
    try rfl
theorem en22 : Gx.Enters Tryz.prog 22 := Gx.Enters.mk' zk
set_option maxRecDepth 8000 in
theorem may31_ok (p : SLaw31Plan) (l1 l2 : CL) (w : World) (hc1 : ConfAt w p.old l1) (hc2 : ConfAt w p.new l2) (hn1 : l1.Names) (hn2 : l2.Names) (hz1 : l1.n ≤ 4611686018427387904) (hz2 : l2.n ≤ 4611686018427387904) : Calls Tryz.prog 6 #[eLaw31Plan.val p] w (RetV w (.bool (mayB l1 p.old.default && mayB l2 p.new.default))) := by
  refine en0 11 Tryz.func6 ?_
  refine sg (cons (box (E := eLaw31Plan) (.t rfl) (fun b1 => ?_)))
  refine co (Ev.assign (.c (v := .bool false) rfl)) ?_
  refine nP (sg (co (fA 0 (.t rfl)) ?_))
  refine co (Ev.ldx p.old ty28 (.t rfl) SLaw31Plan.l_old) ?_
  refine cons (callv en22 (.cons (.t rfl) .nil) (fun w I => rmay_ok p.old l1 w (hc1.keep0 I.keeps) hn1 hz1) ?_)
  refine mv rfl (cg rfl rfl (fA 6 (.t rfl)) ?_)
  refine cg rfl rfl (Ev.ldx p.new ty28 (.g rfl id) SLaw31Plan.l_new) ?_
  refine cons (callg rfl rfl en22 (.cons (.g rfl id) .nil) (fun hg w I => rmay_ok p.new l2 w (hc2.keep0 I.keeps) hn2 hz2) ?_)
  refine co (Ev.pkA (.t rfl) rfl) ?_
  refine asn rfl (nP (ret (done rfl (.tmp rfl .nil) (retE ?_))))
  rfl
end Go.Proofs.YtakmoeladkajdaaGreat
namespace Go.Proofs.YtakmoeladkajdaaGreat
open Go Go.Gx Go.Proofs.YtakmoeladkajdaaGreat.Tri Go.Proofs.YtakmoeladkajdaaGreat.Oc
theorem co5 {K : Ctx} {L : List Res} {x : CB} {l : CL} {d : Int} (w : World) (I : WInv K L w) (h0 : OwnS x.o1.v iE l.ps 3 ∈ L := by repeat first | exact mH | apply mT | apply mA) (h1 : OwnS x.o2.v eRoute l.rs 172 ∈ L := by repeat first | exact mH | apply mT | apply mA) (h2 : OwnS x.o3.v eRule l.us 113 ∈ L := by repeat first | exact mH | apply mT | apply mA) (h3 : OwnS x.o4.v eMeterConf l.ms 134 ∈ L := by repeat first | exact mH | apply mT | apply mA) (h4 : OwnS x.o5.v eMirrorConf l.xs 136 ∈ L := by repeat first | exact mH | apply mT | apply mA) : ConfAt w (x.c d) l := ⟨isSl_own h0 w I, isSl_own h1 w I, isSl_own h2 w I, isSl_own h3 w I, isSl_own h4 w I⟩
theorem rollE_eq (l1 l2 : CL) (d1 d2 : Int) (ss : List SStage) : rollE l1 l2 d1 d2 ss = if (mayB l1 d1 && mayB l2 d2) = false then 210 else if (stagesB ss 0 && decide (0 < ss.length)) = false then 310 else 0 := by
  unfold rollE plE
  cases mayB l1 d1 <;> cases mayB l2 d2 <;> simp
theorem isNone_roll (e : Int) (b : Nat) : (rollO e b).isNone = decide (¬ e = 0) := by
  unfold rollO
  by_cases h : e = 0 <;> simp [h]
theorem eq_b (b : Bool) : decide (b = b) = true := decide_eq_true rfl
theorem sl_take {w : World} {v : Value} {ss r : List SStage} (h : IsSl eStage w v ((([] ++ ss ++ r).take (((ss.length : Nat) : Int)).toNat).drop 0)) : IsSl eStage w v ss := by
  have e : (([] ++ ss ++ r).take (((ss.length : Nat) : Int)).toNat).drop 0 = ss := by
    rw [List.nil_append, Int.toNat_natCast, List.drop_zero]
    exact List.take_left
  rwa [e] at h
theorem at_77 (ss : List SStage) : (([] ++ ss ++ [(⟨77, 0, 0⟩ : SStage)]).getD (((ss.length : Nat) : Int)).toNat eStage.zero).parts = 77 := by simp [List.getD]
theorem ty31 : TyOK Tryz.prog 31 eLaw31Plan := TyOK.mk' zk zk
theorem en6 : Gx.Enters Tryz.prog 6 := Gx.Enters.mk' zk
theorem en7 : Gx.Enters Tryz.prog 7 := Gx.Enters.mk' zk
theorem en9 : Gx.Enters Tryz.prog 9 := Gx.Enters.mk' zk
set_option maxRecDepth 8000 in
theorem RollNews_walk (p : SLaw31Plan) (l1 l2 : CL) (ss : List SStage) (w : World) (hc1 : ConfAt w p.old l1) (hn1 : l1.Names) (hz1 : l1.n ≤ 4611686018427387904) (hf1 : l1.Fits) (hc2 : ConfAt w p.new l2) (hn2 : l2.Names) (hz2 : l2.n ≤ 4611686018427387904) (hf2 : l2.Fits) (hss : IsSl eStage w p.stages.v ss) (hsz : ss.length * 24 ≤ 140737488351232) : Calls Tryz.prog 3 #[eLaw31Plan.val p] w (RetV w (.bool true)) := by
  refine en0 59 Tryz.func3 ?_
  refine sg (cons (box (E := eLaw31Plan) (.t rfl) (fun b1 => ?_)))
  refine co (Ev.assign (.c (v := .bool false) rfl)) ?_
  refine nP (sg (co (Ev.assign (.c (v := I 0) rfl)) ?_))
  refine nP (cut (X := Int) (fun x : Int => (rollE l1 l2 p.old.default p.new.default ss = x)) (fun x : Int => [dz, (1, true, .pointer (some ⟨b1, 0, none⟩)), (3, true, I x)]) (fun x : Int => [Var b1 eLaw31Plan p 31]) ?_ (fun x hx => ?_))
  · refine sg (co (Ev.ldx p ty31 (.t rfl) (Lens.id _)) ?_)
    refine cons (callv en6 (.cons (.t rfl) .nil) (fun w I => may31_ok p l1 l2 w (hc1.keep0 I.keeps) (hc2.keep0 I.keeps) hn1 hn2 hz1 hz2) ?_)
    refine co (Ev.not (.t rfl)) ?_
    refine nP ?_
    first | refine condD rfl (fun h0 => ?_) (fun h0 => ?_) | refine cond rfl (fun h0 => ?_) (fun h0 => ?_)
    · have h0 : (mayB l1 p.old.default && mayB l2 p.new.default) = false := by
        have h9 : (!(mayB l1 p.old.default && mayB l2 p.new.default)) = true := h0
        simpa only [Bool.not_eq_true'] using h9
      refine region (co (Ev.assign (.c (v := I 210) rfl)) ?_)
      refine nP (mt (X := Int) (_) ?_)
      · try dsimp only
        rw [rollE_eq]
        first
          | exact if_pos h0
          | (rw [if_neg h0]; first | exact if_pos h1 | exact if_neg h1)
    · have h0 : ¬ (mayB l1 p.old.default && mayB l2 p.new.default) = false := by
        have h9 : (!(mayB l1 p.old.default && mayB l2 p.new.default)) = false := h0
        simpa only [Bool.not_eq_false', Bool.not_eq_false] using h9
      refine sg (co (fA 12 (.t rfl)) ?_)
      refine co (Ev.ldx p.stages ty29 (.t rfl) SLaw31Plan.l_stages) ?_
      refine cons (callv en7 (.cons (.t rfl) .nil) (fun w I => rstages_ok _ ss w (hss.keep0 I.keeps)) ?_)
      refine co (Ev.not (.t rfl)) ?_
      refine nP ?_
      first | refine condD rfl (fun h1 => ?_) (fun h1 => ?_) | refine cond rfl (fun h1 => ?_) (fun h1 => ?_)
      · have h1 : (stagesB ss 0 && decide (0 < ss.length)) = false := by
          have h9 : (!(stagesB ss 0 && decide (0 < ss.length))) = true := h1
          simpa only [Bool.not_eq_true'] using h9
        refine region (co (Ev.assign (.c (v := I 310) rfl)) ?_)
        refine nP (mt (X := Int) (_) ?_)
        · try dsimp only
          rw [rollE_eq]
          first
            | exact if_pos h0
            | (rw [if_neg h0]; first | exact if_pos h1 | exact if_neg h1)
      · have h1 : ¬ (stagesB ss 0 && decide (0 < ss.length)) = false := by
          have h9 : (!(stagesB ss 0 && decide (0 < ss.length))) = false := h1
          simpa only [Bool.not_eq_false', Bool.not_eq_false] using h9
        refine skip (pN (mt (X := Int) (_) ?_))
        · try dsimp only
          rw [rollE_eq]
          first
            | exact if_pos h0
            | (rw [if_neg h0]; first | exact if_pos h1 | exact if_neg h1)
  obtain ⟨e0, rfl⟩ : ∃ y, y = x := ⟨x, rfl⟩
  have he : rollE l1 l2 p.old.default p.new.default ss = e0 := hx
  clear hx
  show Sat _ _ [dz, (1, true, .pointer (some ⟨b1, 0, none⟩)), (3, true, I e0)] [Var b1 eLaw31Plan p 31]
  refine sg (co (Ev.assign (.c (v := (Go.Value.slice none 0 0)) rfl)) ?_)
  refine takeNil eStage 37 ?_
  refine nP (sg (mv rfl (co (fA 12 (.t rfl)) ?_)))
  refine co (Ev.ldx p.stages ty29 (.t rfl) SLaw31Plan.l_stages) ?_
  refine cons (app (E := eStage) Tryz.underlying29 ty37 zb37 zs37 (.t rfl) (.t rfl) (fun v2 => ?_) (hsrc := (fun w I => hss.keep0 I.keeps)) (hby := ⟨by (show _ ≤ 9223372036854775807); first | omega | (simp; done) | (simp; omega), by first | omega | (simp; done) | (simp; omega)⟩))
  refine co (Ev.buildS (fs := _) (places := [(0, 1), (1, 1), (2, 1)]) z37 rfl Tryz.underlying37 zk (.cons (.c (v := I 77) rfl) .nil) (Fills.cons SStage.l_parts rfl Fills.nil)) ?_
  refine cons (buildSlice (E := eStage) Tryz.underlying29 ty37 z37 (.cons (.t rfl) .nil) rfl rfl (fun v3 => ?_))
  refine cons (app (E := eStage) Tryz.underlying29 ty37 zb37 zs37 (.t rfl) (.t rfl) (fun v4 => ?_) (hby := ⟨by (show _ ≤ 9223372036854775807); first | omega | (simp; done) | (simp; omega), by first | omega | (simp; done) | (simp; omega)⟩))
  refine asn rfl (nP (seq (draw' zk ?_)))
  refine tk 0 rfl (fA 0 (.t rfl)) ?_
  refine tk 1 rfl (Ev.ldx p.old ty28 (.t rfl) SLaw31Plan.l_old) ?_
  refine tk 3 rfl (fA 6 (.t rfl)) ?_
  refine tk 4 rfl (Ev.ldx p.new ty28 (.t rfl) SLaw31Plan.l_new) ?_
  refine tk 6 rfl (Ev.move (.t rfl)) ?_
  refine tk 7 rfl (fA 12 (.t rfl)) ?_
  refine tk 8 rfl (Ev.ldx p.stages ty29 (.t rfl) SLaw31Plan.l_stages) ?_
  refine tk 9 rfl (Ev.len Tryz.underlying29 (.t rfl) (fun w I => hss.keep0 I.keeps)) ?_
  refine tk 10 rfl (Ev.sliceH Tryz.underlying29 ty37 (.t rfl) (.t rfl) zf (fun _ => by (try simp only [List.length_append, List.nil_append, List.length_cons, List.length_nil]); omega)) ?_
  refine al1 2 rfl ((calln (X := CB) (fun _ => True) (fun x => eConf.val (x.c p.old.default)) (fun x => x.R l1) en9 (.cons (.t rfl) .nil) (fun w I => rcopy_big p.old l1 w (hc1.keep0 I.keeps) hf1) (fun x1 _ => ?_)))
  refine hdn (al1 5 rfl ((calln (X := CB) (fun _ => True) (fun x => eConf.val (x.c p.new.default)) (fun x => x.R l2) en9 (.cons (.t rfl) .nil) (fun w I => rcopy_big p.new l2 w (hc2.keep0 I.keeps) hf2) (fun x2 _ => ?_))))
  refine hdn (al1 11 rfl ((calln (X := RX) (fun x : RX => (rollE l1 l2 p.old.default p.new.default ss) = 0 → NewJ l1 l2 p.old.default p.new.default ss x) (fun x => .tuple #[.pointer (rollO (rollE l1 l2 p.old.default p.new.default ss) x.b), I (rollE l1 l2 p.old.default p.new.default ss)]) (fun x => if (rollE l1 l2 p.old.default p.new.default ss) = 0 then x.R ss else []) en8 (.cons (.t rfl) (.cons (.t rfl) (.cons (.t rfl) .nil))) (fun w I => new_ok (x1.c p.old.default) (x2.c p.new.default) l1 l2 _ ss w (co5 (x := x1) (l := l1) (d := p.old.default) w I) (co5 (x := x2) (l := l2) (d := p.new.default) w I) (sl_take (IsSl.sub (w := w) (by first | exact io w I | exact IsSl.keep0 (by assumption) I.keeps) (by (try simp only [List.length_append, List.nil_append, List.length_cons, List.length_nil]); omega) (by (try simp only [List.length_append, List.nil_append, List.length_cons, List.length_nil]); omega))) hn1 hn2 hz1 hz2 (by omega)) (fun x3 hx3 => ?_))))
  refine hdn (tk 12 rfl (Ev.move (.t rfl)) ?_)
  refine tk 13 rfl (Ev.extract (.t rfl) rfl) ?_
  refine tk 14 rfl (Ev.extract (.t rfl) rfl) ?_
  refine tk 15 rfl (Ev.assign (.t rfl)) ?_
  refine tk 16 rfl (Ev.assign (.t rfl)) ?_
  refine ovr (pN (sg (mv rfl (mv rfl (co (Ev.to (v' := .bool true) (Ev.eql_i (.t rfl) (.t rfl)) (congrArg Value.bool (decide_eq_true he))) ?_)))))
  refine mv rfl (cg rfl rfl (Ev.move (.t rfl)) ?_)
  refine cg rfl rfl (Ev.to (v' := .bool (decide (¬ rollE l1 l2 p.old.default p.new.default ss = 0))) (Ev.eql_p Tryz.underlying38 (.g rfl id) (.c rfl)) (congrArg Value.bool (isNone_roll _ _))) ?_
  refine cg rfl rfl (Ev.move (.t rfl)) ?_
  refine cg rfl rfl (Ev.neq_i (.g rfl id) (.c (v := I 0) rfl)) ?_
  refine cg rfl rfl (Ev.to (v' := .bool true) (Ev.eql_b Tryz.underlying4 (.g rfl id) (.g rfl id)) (congrArg Value.bool (eq_b _))) ?_
  refine co (Ev.pkA (.t rfl) rfl) ?_
  refine mv rfl (cg rfl rfl (Ev.move (.t rfl)) ?_)
  refine cg rfl rfl (fA 12 (.t rfl)) ?_
  refine cg rfl rfl (Ev.ldx p.stages ty29 (.g rfl id) SLaw31Plan.l_stages) ?_
  refine cg rfl rfl (Ev.len Tryz.underlying29 (.g rfl id) (fun w I => hss.keep0 I.keeps)) ?_
  refine cg rfl rfl (Ev.indexAddr Tryz.underlying29 ty37 (.g rfl id) (.g rfl id) zf (fun _ => by simp only [List.length_append, List.nil_append, List.length_cons, List.length_nil]; omega)) ?_
  refine cg rfl rfl (Ev.fieldAddrS (o := 0) (.g rfl id) zf (fun _ => ⟨by (show (0 : Int) ≤ (ss.length : Int)); omega, by (show (ss.length : Int) < _); simp only [List.length_append, List.nil_append, List.length_cons, List.length_nil]; omega⟩) (by kernel_rfl)) ?_
  refine cg rfl rfl (Ev.loadS ty3 SStage.l_parts rfl (.g rfl id) zf (fun _ => ⟨by (show (0 : Int) ≤ (ss.length : Int)); omega, by (show (ss.length : Int) < _); simp only [List.length_append, List.nil_append, List.length_cons, List.length_nil]; omega⟩)) ?_
  refine cg rfl rfl (Ev.to (v' := .bool true) (Ev.eql_i (.g rfl id) (.c (v := I 77) rfl)) (congrArg Value.bool (decide_eq_true (at_77 ss)))) ?_
  refine co (Ev.pkA (.t rfl) rfl) ?_
  refine mv rfl (cons (callg rfl rfl en10 .nil (fun hg w I => works_ok w) ?_))
  refine co (Ev.pkA (.t rfl) rfl) ?_
  refine asn rfl (nP (ret (done rfl (.tmp rfl .nil) (retE ?_))))
  rfl
end Go.Proofs.YtakmoeladkajdaaGreat
