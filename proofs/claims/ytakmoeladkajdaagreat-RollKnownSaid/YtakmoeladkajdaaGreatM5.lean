/- Part. -/
import Derived.Test.YtakmoeladkajdaaGreatM4
set_option linter.unusedVariables false
set_option linter.unusedSimpArgs false
set_option linter.unusedSectionVars false
namespace Go.Proofs.YtakmoeladkajdaaGreat
open Go Go.Gx Go.Proofs.YtakmoeladkajdaaGreat.Tri Go.Proofs.YtakmoeladkajdaaGreat.Oc
theorem and_small (n : UInt64) : (n &&& 255).toNat < 9223372036854775808 := by
  rw [UInt64.toNat_and]
  exact Nat.lt_of_le_of_lt Nat.and_le_right (by decide)
theorem en28 : Gx.Enters Tryz.prog 28 := Gx.Enters.mk' (by kernel_rfl)
theorem en32 : Gx.Enters Tryz.prog 32 := Gx.Enters.mk' (by kernel_rfl)
theorem en33 : Gx.Enters Tryz.prog 33 := Gx.Enters.mk' (by kernel_rfl)
theorem en34 : Gx.Enters Tryz.prog 34 := Gx.Enters.mk' (by kernel_rfl)
set_option maxRecDepth 8000 in
theorem stage_ok (b nb : Nat) (x : SRollRoll) (w : World) (hb : PtsTo eRollRoll w b 0 x) (hn : x.new = ptrV nb) : Calls Tryz.prog 14 #[.pointer (some ⟨b, 0, none⟩), nilIf.v] w (RetV w (.tuple #[I ((splitS x.state.v).stage.toNat : Int), U64 (splitS x.state.v).seen, U64 (splitS x.state.v).dropped, I 0])) := by
  refine en0 26 Tryz.func14 ?_
  refine sg (co (Ev.assign (.c (v := I 0) rfl)) ?_)
  refine co (Ev.assign (.c (v := U64 0) rfl)) ?_
  refine co (Ev.assign (.c (v := U64 0) rfl)) ?_
  refine co (Ev.assign (.c (v := I 0) rfl)) ?_
  refine nP (seq (sg (mv rfl (cons (callv en28 (.cons (.t rfl) .nil) (fun w I => rthere_ok b nb x w (hb.keep I.keeps) hn) ?_)))))
  refine co (Ev.not (.t rfl)) ?_
  refine nP (condF rfl (rfl) ?_)
  refine skip (pN (sg (mv rfl (cons (callv en32 (.cons (.t rfl) (.cons (.c (v := U8 1) rfl) .nil)) (fun w I => step_nil _ w) ?_)))))
  refine nP (sg (mv rfl (co (Ev.nilCheck (.t rfl)) ?_)))
  refine co (fA 3 (.t rfl)) ?_
  refine cons (callv en33 (.cons (.t rfl) .nil) (fun w I => load64_ok b _ _ w (ptsL (fun w I => hb.keep I.keeps) (Lens.comp SRollRoll.l_state SAtomicUint64.l_v) w I)) ?_)
  refine cons (callv en34 (.cons (.t rfl) .nil) (fun w I => split_ok _ w) ?_)
  refine cons (alloc z102 (fun b1 => ?_))
  refine cons (stv ty102 (Lens.id _) (.t rfl) (.t rfl) ?_)
  refine nP (seq (draw' (by kernel_rfl) ?_))
  refine tk 0 rfl (fA 1 (.t rfl)) ?_
  refine tk 1 rfl (Ev.ldv ty35 (.t rfl) SRollState.l_stage) ?_
  refine tk 2 rfl (Ev.conv_u64_i Tryz.underlying3 Tryz.underlying35 (.t rfl) (fun _ => and_small _)) ?_
  refine tk 3 rfl (fA 2 (.t rfl)) ?_
  refine tk 4 rfl (Ev.ldv ty35 (.t rfl) SRollState.l_seen) ?_
  refine tk 5 rfl (fA 3 (.t rfl)) ?_
  refine tk 6 rfl (Ev.ldv ty35 (.t rfl) SRollState.l_dropped) ?_
  refine tk 7 rfl (Ev.assign (.t rfl)) ?_
  refine tk 8 rfl (Ev.assign (.t rfl)) ?_
  refine tk 9 rfl (Ev.assign (.t rfl)) ?_
  refine tk 10 rfl (Ev.assign (.c (v := I 0) rfl)) ?_
  refine ovr (pN (ret (done rfl (.tmp rfl (.tmp rfl (.tmp rfl (.tmp rfl .nil)))) (retE ?_))))
  rfl
set_option maxRecDepth 8000 in
theorem over_ok (b nb : Nat) (x : SRollRoll) (w : World) (hb : PtsTo eRollRoll w b 0 x) (hn : x.new = ptrV nb) : Calls Tryz.prog 15 #[.pointer (some ⟨b, 0, none⟩), nilIf.v] w (RetV w (.tuple #[.bool (decide (¬ (splitS x.state.v).end_ = 0)), .bool (decide ((splitS x.state.v).end_ = 1)), I 0])) := by
  refine en0 24 Tryz.func15 ?_
  refine sg (co (Ev.assign (.c (v := .bool false) rfl)) ?_)
  refine co (Ev.assign (.c (v := .bool false) rfl)) ?_
  refine co (Ev.assign (.c (v := I 0) rfl)) ?_
  refine nP (seq (sg (mv rfl (cons (callv en28 (.cons (.t rfl) .nil) (fun w I => rthere_ok b nb x w (hb.keep I.keeps) hn) ?_)))))
  refine co (Ev.not (.t rfl)) ?_
  refine nP (condF rfl (rfl) ?_)
  refine skip (pN (sg (mv rfl (cons (callv en32 (.cons (.t rfl) (.cons (.c (v := U8 1) rfl) .nil)) (fun w I => step_nil _ w) ?_)))))
  refine nP (sg (mv rfl (co (Ev.nilCheck (.t rfl)) ?_)))
  refine co (fA 3 (.t rfl)) ?_
  refine cons (callv en33 (.cons (.t rfl) .nil) (fun w I => load64_ok b _ _ w (ptsL (fun w I => hb.keep I.keeps) (Lens.comp SRollRoll.l_state SAtomicUint64.l_v) w I)) ?_)
  refine cons (callv en34 (.cons (.t rfl) .nil) (fun w I => split_ok _ w) ?_)
  refine cons (alloc z102 (fun b1 => ?_))
  refine cons (stv ty102 (Lens.id _) (.t rfl) (.t rfl) ?_)
  refine nP (seq (draw' (by kernel_rfl) ?_))
  refine tk 0 rfl (fA 0 (.t rfl)) ?_
  refine tk 1 rfl (Ev.ldv ty35 (.t rfl) SRollState.l_end_) ?_
  refine tk 2 rfl (Ev.neq_u64 (.t rfl) (.c (v := U64 0) rfl)) ?_
  refine tk 3 rfl (fA 0 (.t rfl)) ?_
  refine tk 4 rfl (Ev.ldv ty35 (.t rfl) SRollState.l_end_) ?_
  refine tk 5 rfl (Ev.eql_u64 (.t rfl) (.c (v := U64 1) rfl)) ?_
  refine tk 6 rfl (Ev.assign (.t rfl)) ?_
  refine tk 7 rfl (Ev.assign (.t rfl)) ?_
  refine tk 8 rfl (Ev.assign (.c (v := I 0) rfl)) ?_
  refine ovr (pN (ret (done rfl (.tmp rfl (.tmp rfl (.tmp rfl .nil))) (retE ?_))))
  rfl
end Go.Proofs.YtakmoeladkajdaaGreat
namespace Go.Proofs.YtakmoeladkajdaaGreat
open Go Go.Gx Go.Proofs.YtakmoeladkajdaaGreat.Tri Go.Proofs.YtakmoeladkajdaaGreat.Oc
def nextS (ss : List SStage) (s : SRollState) (dr : Bool) : SRollState :=
  let d2 := if dr = true then s.dropped + 1 else s.dropped
  if (ss.getD s.stage.toNat eStage.zero).most < d2 then ⟨2, s.stage, s.seen + 1, d2⟩
  else if s.seen + 1 < (ss.getD s.stage.toNat eStage.zero).wait then ⟨s.end_, s.stage, s.seen + 1, d2⟩
  else if (s.stage.toNat : Int) = (ss.length : Int) - 1 then ⟨1, s.stage, s.seen + 1, d2⟩
  else ⟨0, s.stage + 1, 0, 0⟩
theorem indexAddrU {α : Type} {P : Program} {K : Ctx} {F : Fr} {L : List Res} {g : Bool} {x y : Operand} {t ty : TypeId} {E : Enc α} {v : Value} {xs : List α} {e : TypeId} {n : UInt64} (ht : P.underlying t = some (.slice e)) (T : TyOK P e E) (hx : Opd F g x v) (hy : Opd F g y (U64 n))
    (h : ∀ w, WInv K L w → IsSl E w v xs) (hi : n.toNat < xs.length) :
    Ev P K F L g (.indexAddr t x y) ty (elemPtr v (((n.toNat : Int)).toNat * E.size)) := fun hg a G w hw dst pos af gd => by
  obtain ⟨b, cap, rfl, h1, _, h2, h3⟩ := h w hw
  have hi' : 0 ≤ (n.toNat : Int) ∧ (n.toNat : Int) < xs.length := by omega
  have hu : (underlying t).run P w = .ok (.slice e) w := by simp [underlying, ht]
  cases b with
  | none =>
    have := (h2 rfl).1
    subst this
    simp at hi
  | some p =>
    have hp := (h3 p rfl).1 (fun e => by rw [e] at hi; simp at hi)
    obtain ⟨pb, po, ps⟩ := p
    simp only at hp
    subst hp
    simp [execOp, Instr.indexAt, asIntOf, hx.eval hg G, hy.eval hg G, U64, hu, hi, hi', Gx.run_sizeOf T, elemPtr, addr_add]
theorem ty29 : TyOK Tryz.prog 29 (ovE nilSl) := TyOK.mk' (by kernel_rfl) (by kernel_rfl)
set_option maxRecDepth 8000 in
theorem counted_ok (b : Nat) (x : SRollRoll) (ss : List SStage) (s : SRollState) (dr : Bool) (w : World) (hb : PtsTo eRollRoll w b 0 x) (hs : IsSl eStage w x.stages.v ss) (hi : s.stage.toNat < ss.length) (hl : ss.length ≤ 256) : Calls Tryz.prog 35 #[.pointer (some ⟨b, 0, none⟩), eRollState.val s, .bool dr] w (RetV w (eRollState.val (nextS ss s dr))) := by
  refine en0 55 Tryz.func35 ?_
  refine sg (cons (box (E := eRollState) (.t rfl) (fun b1 => ?_)))
  refine cons (alloc z102 (fun b2 => ?_))
  refine nP (cut (X := Nat) (fun x : Nat => True) (fun x : Nat => [dz, (0, true, .pointer (some ⟨b, 0, none⟩)), (2, true, .bool dr), (4, true, .pointer (some ⟨b1, 0, none⟩)), (6, true, .pointer (some ⟨b2, 0, none⟩)), (7, true, .pointer (some ⟨x, 0, none⟩))]) (fun x : Nat => [Var x eStage (ss.getD s.stage.toNat eStage.zero) 37, Var b2 eRollState eRollState.zero 102, Var b1 eRollState s 102]) ?_ (fun x hx => ?_))
  · refine draw' (by kernel_rfl) ?_
    refine tk 0 rfl (Ev.move (.t rfl)) ?_
    refine tk 1 rfl (Ev.nilCheck (.t rfl)) ?_
    refine tk 2 rfl (fA 2 (.t rfl)) ?_
    refine tk 3 rfl (Ev.load ty29 (.t rfl) (ptsL (fun w I => hb.keep I.keeps) SRollRoll.l_stages)) ?_
    refine tk 4 rfl (fA 1 (.t rfl)) ?_
    refine tk 5 rfl (Ev.ldv ty35 (.t rfl) SRollState.l_stage) ?_
    refine tk 6 rfl (indexAddrU Tryz.underlying29 ty37 (.t rfl) (.t rfl) (fun w I => hs.keep0 I.keeps) hi) ?_
    refine tk 7 rfl (Ev.loadS0 ty37 (.t rfl) (fun w I => hs.keep0 I.keeps) (fun _ => ⟨by omega, by (show (s.stage.toNat : Int) < _); omega⟩)) ?_
    refine al1 8 rfl ((alloc z37 (fun b3 => ?_)))
    refine hdn (al1 9 rfl ((stv ty37 (Lens.id _) (.t rfl) (.t rfl) ?_)))
    refine hdn (ovr (pN (mtP (X := Nat) (_) trivial)))
  obtain ⟨x3, rfl⟩ : ∃ y, y = x := ⟨x, rfl⟩
  show Sat _ _ [dz, (0, true, .pointer (some ⟨b, 0, none⟩)), (2, true, .bool dr), (4, true, .pointer (some ⟨b1, 0, none⟩)), (6, true, .pointer (some ⟨b2, 0, none⟩)), (7, true, .pointer (some ⟨x3, 0, none⟩))] [Var x3 eStage (ss.getD s.stage.toNat eStage.zero) 37, Var b2 eRollState eRollState.zero 102, Var b1 eRollState s 102]
  refine sg (co (fA 2 (.t rfl)) ?_)
  refine co (Ev.ldv ty35 (.t rfl) SRollState.l_seen) ?_
  refine co (Ev.add_u64 (.t rfl) (.c (v := U64 1) rfl)) ?_
  refine co (fA 2 (.t rfl)) ?_
  refine cons (stv ty35 SRollState.l_seen (.t rfl) (.t rfl) ?_)
  refine nP (cut (X := UInt64) (fun x : UInt64 => (x = if dr = true then s.dropped + 1 else s.dropped)) (fun x : UInt64 => [dz, (0, true, .pointer (some ⟨b, 0, none⟩)), (4, true, .pointer (some ⟨b1, 0, none⟩)), (6, true, .pointer (some ⟨b2, 0, none⟩)), (7, true, .pointer (some ⟨x3, 0, none⟩))]) (fun x : UInt64 => [Var x3 eStage (ss.getD s.stage.toNat eStage.zero) 37, Var b2 eRollState eRollState.zero 102, Var b1 eRollState ⟨s.end_, s.stage, s.seen + 1, x⟩ 102]) ?_ (fun x hx => ?_))
  · refine sg (mv rfl (nP ?_))
    first | refine condD rfl (fun h0 => ?_) (fun h0 => ?_) | refine cond rfl (fun h0 => ?_) (fun h0 => ?_)
    · try simp only [Gx.nb] at h0
      refine region (co (fA 3 (.t rfl)) ?_)
      refine co (Ev.ldv ty35 (.t rfl) SRollState.l_dropped) ?_
      refine co (Ev.add_u64 (.t rfl) (.c (v := U64 1) rfl)) ?_
      refine co (fA 3 (.t rfl)) ?_
      refine cons (stv ty35 SRollState.l_dropped (.t rfl) (.t rfl) ?_)
      refine nP (mt (X := UInt64) (_) ?_)
      · try dsimp only
        first | (rw [if_pos h0]; rfl) | (rw [if_neg (by rw [h0]; exact Bool.false_ne_true)]; rfl)
    · try simp only [Gx.nb] at h0
      refine skip (pN (mt (X := UInt64) (_) ?_))
      · try dsimp only
        first | (rw [if_pos h0]; rfl) | (rw [if_neg (by rw [h0]; exact Bool.false_ne_true)]; rfl)
  obtain ⟨d2, rfl⟩ : ∃ y, y = x := ⟨x, rfl⟩
  have hd2 : d2 = if dr = true then s.dropped + 1 else s.dropped := hx
  clear hx
  show Sat _ _ [dz, (0, true, .pointer (some ⟨b, 0, none⟩)), (4, true, .pointer (some ⟨b1, 0, none⟩)), (6, true, .pointer (some ⟨b2, 0, none⟩)), (7, true, .pointer (some ⟨x3, 0, none⟩))] [Var x3 eStage (ss.getD s.stage.toNat eStage.zero) 37, Var b2 eRollState eRollState.zero 102, Var b1 eRollState ⟨s.end_, s.stage, s.seen + 1, d2⟩ 102]
  refine seq (block (sg (co (fA 3 (.t rfl)) ?_)))
  refine co (Ev.ldv ty35 (.t rfl) SRollState.l_dropped) ?_
  refine co (fA 2 (.t rfl)) ?_
  refine co (Ev.ldv ty35 (.t rfl) SStage.l_most) ?_
  refine co (Ev.gtr_u64 (.t rfl) (.t rfl)) ?_
  refine asn rfl (nP ?_)
  first | refine condD rfl (fun h1 => ?_) (fun h1 => ?_) | refine cond rfl (fun h1 => ?_) (fun h1 => ?_)
  · try simp only [Gx.nb] at h1
    refine region (co (fA 0 (.t rfl)) ?_)
    refine cons (stv ty35 SRollState.l_end_ (.t rfl) (.c (v := U64 2) rfl) ?_)
    refine nil (bN (pN (sg (co (Ev.ldv ty102 (.t rfl) (Lens.id _)) ?_))))
    refine cons (stv ty102 (Lens.id _) (.t rfl) (.t rfl) ?_)
    refine nP (ret (done rfl (.cell rfl (fun w I => run_loadVar_pts ty102 (ptsVar (by repeat first | exact mH | apply mT | apply mA) (Lens.id _) w I)) .nil) (retE ?_)))
    unfold nextS
    dsimp only
    rw [← hd2]
    first
      | (have g : (ss.getD s.stage.toNat eStage.zero).most < d2 := h1
         rw [if_pos g]; rfl)
      | (have g : ¬ (ss.getD s.stage.toNat eStage.zero).most < d2 := h1
         first
           | (have g2 : s.seen + 1 < (ss.getD s.stage.toNat eStage.zero).wait := h2
              rw [if_neg g, if_pos g2]; rfl)
           | (have g2 : ¬ s.seen + 1 < (ss.getD s.stage.toNat eStage.zero).wait := h2
              first
                | (have g3 : (s.stage.toNat : Int) = (ss.length : Int) - 1 := h3
                   rw [if_neg g, if_neg g2, if_pos g3]; rfl)
                | (have g3 : ¬ (s.stage.toNat : Int) = (ss.length : Int) - 1 := h3
                   rw [if_neg g, if_neg g2, if_neg g3]; rfl)))
  · try simp only [Gx.nb] at h1
    refine sg (co (fA 2 (.t rfl)) ?_)
    refine co (Ev.ldv ty35 (.t rfl) SRollState.l_seen) ?_
    refine co (fA 1 (.t rfl)) ?_
    refine co (Ev.ldv ty35 (.t rfl) SStage.l_wait) ?_
    refine co (Ev.lss_u64 (.t rfl) (.t rfl)) ?_
    refine asn rfl (nP ?_)
    first | refine condD rfl (fun h2 => ?_) (fun h2 => ?_) | refine cond rfl (fun h2 => ?_) (fun h2 => ?_)
    · try simp only [Gx.nb] at h2
      refine skip (bN (pN (sg (co (Ev.ldv ty102 (.t rfl) (Lens.id _)) ?_))))
      refine cons (stv ty102 (Lens.id _) (.t rfl) (.t rfl) ?_)
      refine nP (ret (done rfl (.cell rfl (fun w I => run_loadVar_pts ty102 (ptsVar (by repeat first | exact mH | apply mT | apply mA) (Lens.id _) w I)) .nil) (retE ?_)))
      unfold nextS
      dsimp only
      rw [← hd2]
      first
        | (have g : (ss.getD s.stage.toNat eStage.zero).most < d2 := h1
           rw [if_pos g]; rfl)
        | (have g : ¬ (ss.getD s.stage.toNat eStage.zero).most < d2 := h1
           first
             | (have g2 : s.seen + 1 < (ss.getD s.stage.toNat eStage.zero).wait := h2
                rw [if_neg g, if_pos g2]; rfl)
             | (have g2 : ¬ s.seen + 1 < (ss.getD s.stage.toNat eStage.zero).wait := h2
                first
                  | (have g3 : (s.stage.toNat : Int) = (ss.length : Int) - 1 := h3
                     rw [if_neg g, if_neg g2, if_pos g3]; rfl)
                  | (have g3 : ¬ (s.stage.toNat : Int) = (ss.length : Int) - 1 := h3
                     rw [if_neg g, if_neg g2, if_neg g3]; rfl)))
    · try simp only [Gx.nb] at h2
      refine seq (draw' (by kernel_rfl) ?_)
      refine tk 0 rfl (fA 1 (.t rfl)) ?_
      refine tk 1 rfl (Ev.ldv ty35 (.t rfl) SRollState.l_stage) ?_
      refine tk 2 rfl (Ev.conv_u64_i Tryz.underlying3 Tryz.underlying35 (.t rfl) (fun _ => (by show s.stage.toNat < _; omega))) ?_
      refine tk 3 rfl (Ev.move (.t rfl)) ?_
      refine tk 4 rfl (Ev.nilCheck (.t rfl)) ?_
      refine tk 5 rfl (fA 2 (.t rfl)) ?_
      refine tk 6 rfl (Ev.load ty29 (.t rfl) (ptsL (fun w I => hb.keep I.keeps) SRollRoll.l_stages)) ?_
      refine tk 7 rfl (Ev.len Tryz.underlying29 (.t rfl) (fun w I => hs.keep0 I.keeps)) ?_
      refine tk 8 rfl (Ev.sub_i (.t rfl) (.c (v := I 1) rfl) (fun _ => by omega)) ?_
      refine tk 9 rfl (Ev.eql_i (.t rfl) (.t rfl)) ?_
      refine tk 10 rfl (Ev.assign (.t rfl)) ?_
      refine ovr (pN ?_)
      first | refine condD rfl (fun h3 => ?_) (fun h3 => ?_) | refine cond rfl (fun h3 => ?_) (fun h3 => ?_)
      · try simp only [Gx.nb] at h3
        refine region (co (fA 0 (.t rfl)) ?_)
        refine cons (stv ty35 SRollState.l_end_ (.t rfl) (.c (v := U64 1) rfl) ?_)
        refine nil (bN (pN (sg (co (Ev.ldv ty102 (.t rfl) (Lens.id _)) ?_))))
        refine cons (stv ty102 (Lens.id _) (.t rfl) (.t rfl) ?_)
        refine nP (ret (done rfl (.cell rfl (fun w I => run_loadVar_pts ty102 (ptsVar (by repeat first | exact mH | apply mT | apply mA) (Lens.id _) w I)) .nil) (retE ?_)))
        unfold nextS
        dsimp only
        rw [← hd2]
        first
          | (have g : (ss.getD s.stage.toNat eStage.zero).most < d2 := h1
             rw [if_pos g]; rfl)
          | (have g : ¬ (ss.getD s.stage.toNat eStage.zero).most < d2 := h1
             first
               | (have g2 : s.seen + 1 < (ss.getD s.stage.toNat eStage.zero).wait := h2
                  rw [if_neg g, if_pos g2]; rfl)
               | (have g2 : ¬ s.seen + 1 < (ss.getD s.stage.toNat eStage.zero).wait := h2
                  first
                    | (have g3 : (s.stage.toNat : Int) = (ss.length : Int) - 1 := h3
                       rw [if_neg g, if_neg g2, if_pos g3]; rfl)
                    | (have g3 : ¬ (s.stage.toNat : Int) = (ss.length : Int) - 1 := h3
                       rw [if_neg g, if_neg g2, if_neg g3]; rfl)))
      · try simp only [Gx.nb] at h3
        refine region (co (fA 1 (.t rfl)) ?_)
        refine co (Ev.ldv ty35 (.t rfl) SRollState.l_stage) ?_
        refine co (Ev.add_u64 (.t rfl) (.c (v := U64 1) rfl)) ?_
        refine co (Ev.buildS (fs := _) (places := [(0, 1), (1, 1), (2, 1), (3, 1)]) z102 rfl Tryz.underlying102 (by kernel_rfl) (.cons (.t rfl) .nil) (Fills.cons SRollState.l_stage rfl Fills.nil)) ?_
        refine cons (stv ty102 (Lens.id _) (.t rfl) (.t rfl) ?_)
        refine nil (bN (pN (sg (co (Ev.ldv ty102 (.t rfl) (Lens.id _)) ?_))))
        refine cons (stv ty102 (Lens.id _) (.t rfl) (.t rfl) ?_)
        refine nP (ret (done rfl (.cell rfl (fun w I => run_loadVar_pts ty102 (ptsVar (by repeat first | exact mH | apply mT | apply mA) (Lens.id _) w I)) .nil) (retE ?_)))
        unfold nextS
        dsimp only
        rw [← hd2]
        first
          | (have g : (ss.getD s.stage.toNat eStage.zero).most < d2 := h1
             rw [if_pos g]; rfl)
          | (have g : ¬ (ss.getD s.stage.toNat eStage.zero).most < d2 := h1
             first
               | (have g2 : s.seen + 1 < (ss.getD s.stage.toNat eStage.zero).wait := h2
                  rw [if_neg g, if_pos g2]; rfl)
               | (have g2 : ¬ s.seen + 1 < (ss.getD s.stage.toNat eStage.zero).wait := h2
                  first
                    | (have g3 : (s.stage.toNat : Int) = (ss.length : Int) - 1 := h3
                       rw [if_neg g, if_neg g2, if_pos g3]; rfl)
                    | (have g3 : ¬ (s.stage.toNat : Int) = (ss.length : Int) - 1 := h3
                       rw [if_neg g, if_neg g2, if_neg g3]; rfl)))
end Go.Proofs.YtakmoeladkajdaaGreat
namespace Go.Proofs.YtakmoeladkajdaaGreat
open Go Go.Gx Go.Proofs.YtakmoeladkajdaaGreat.Tri Go.Proofs.YtakmoeladkajdaaGreat.Oc
theorem zb37 : (Tryz.prog.info? 37).map (fun i => (i.zero, i.bytes)) = some (some (eStage.val eStage.zero), 24) := by kernel_rfl
theorem zs37 : (eStage.val eStage.zero).cells.size = eStage.size := by rw [Enc.cells_val, List.size_toArray, Enc.len]
theorem clone_37 (u : Value) (xs : List SStage) (w : World) (hl : IsSl eStage w u xs) (hn : xs.length * 24 ≤ 140737488355328) : Calls Tryz.prog 23 #[u] w (RetO w eStage xs 37) := by
  have hle := hl.le
  have hl2 := hl
  obtain ⟨sa, cap, rfl, hc1, hc2, hc3, hc4⟩ := hl2
  replace hc3 : sa = none → [] = xs := fun e => (hc3 e).1.symm
  refine en0 8 Tryz.func23 ?_
  refine sg (co (Ev.assign (.c (v := (Go.Value.slice none 0 0)) rfl)) ?_)
  refine nP (seq (sg (mv rfl (co (Ev.eql_slnil Tryz.underlying29 (.t rfl) (.c rfl)) ?_))))
  refine nP ?_
  first | refine condD rfl (fun h0 => ?_) (fun h0 => ?_) | refine cond rfl (fun h0 => ?_) (fun h0 => ?_)
  · try simp only [Gx.nb] at h0
    refine sg (takeNil eStage 37 ?_)
    refine co (Ev.assign (.c (v := (Go.Value.slice none 0 0)) rfl)) ?_
    refine nP (ret (pR (done rfl (.tmp rfl .nil) (retOE (by repeat first | exact mH | apply mT | apply mA) ?_))))
    first | exact hc3 (by simpa using h0) | (symm; exact hc3 (by simpa using h0))
  · try simp only [Gx.nb] at h0
    refine skip (pN (sg (cons (buildSlice (E := eStage) Tryz.underlying29 ty37 z37 .nil rfl rfl (fun v1 => ?_)))))
    refine mv rfl (cons (app (E := eStage) Tryz.underlying29 ty37 zb37 zs37 (.t rfl) (.t rfl) (fun v2 => ?_) (hsrc := (fun w I => hl.keep0 I.keeps)) (hby := ⟨by (show _ ≤ 9223372036854775807); first | omega | (simp; done) | (simp; omega), by first | omega | (simp; done) | (simp; omega)⟩)))
    refine asn rfl (nP (ret (done rfl (.tmp rfl .nil) (retOE (by repeat first | exact mH | apply mT | apply mA) ?_))))
    simp
structure RX where
  b : Nat
  p : Pl
  q : Pl
  sv : OV
  r : Res
def recR (p q : Nat) (sv : OV) (n : UInt64) : SRollRoll := ⟨ptrV p, ptrV q, sv, SAtomicUint64.l_v.set eRollRoll.zero.state n⟩
def RX.rv (x : RX) (n : UInt64) : SRollRoll := recR x.p.b x.q.b x.sv n
structure RollAt (w : World) (x : RX) (l1 l2 : CL) (d1 d2 : Int) (ss : List SStage) : Prop where
  p : PlanAt w x.p l1 d1
  q : PlanAt w x.q l2 d2
  s : IsSl eStage w x.sv.v ss
def rollE (l1 l2 : CL) (d1 d2 : Int) (ss : List SStage) : Int := if plE l1 d1 ≠ 0 then plE l1 d1 else if plE l2 d2 ≠ 0 then plE l2 d2 else if (stagesB ss 0 && decide (0 < ss.length)) = false then 310 else 0
def rollO (e : Int) (b : Nat) : Option Addr := if e = 0 then some ⟨b, 0, none⟩ else none
structure NewJ (l1 l2 : CL) (d1 d2 : Int) (ss : List SStage) (x : RX) : Prop where
  p : PlanOK x.p l1 d1
  q : PlanOK x.q l2 d2
  st : stagesB ss 0 = true
  pos : 0 < ss.length
  r : ∀ w, x.r.A w → PlanAt w x.p l1 d1 ∧ PlanAt w x.q l2 d2
def RX.R (x : RX) (ss : List SStage) : List Res := [Var x.b eRollRoll (x.rv 0) 58, x.r, OwnS x.sv.v eStage ss 37]
def RetW31 (w : World) (l1 l2 : CL) (d1 d2 : Int) (ss : List SStage) : Ending → World → Prop :=
  RetN w (fun x : RX => rollE l1 l2 d1 d2 ss = 0 → NewJ l1 l2 d1 d2 ss x) (fun x => .tuple #[.pointer (rollO (rollE l1 l2 d1 d2 ss) x.b), I (rollE l1 l2 d1 d2 ss)]) (fun x => if rollE l1 l2 d1 d2 ss = 0 then x.R ss else [])
def plV (l : CL) (d : Int) (b : Nat) : OV := ⟨.pointer (plO l d b), rfl⟩
theorem pl_ok {l : CL} {d : Int} (h : ¬ plE l d ≠ 0) : mayB l d = true := by
  unfold plE at h
  split at h
  · assumption
  · exact absurd (by decide) h
theorem plV_ok {l : CL} {d : Int} (h : mayB l d = true) (b : Nat) : plV l d b = ptrV b := by
  unfold plV ptrV plO
  simp only [h, if_true]
theorem new_bad {w0 : World} {n : Nat} {L : List Res} {l1 l2 : CL} {d1 d2 : Int} {ss : List SStage} {e : Int} (he : rollE l1 l2 d1 d2 ss = e) (hn : e ≠ 0) : ∀ w, WInv ⟨n, w0, Nope⟩ L w → RetW31 w0 l1 l2 d1 d2 ss (.returned (.tuple #[.pointer none, I e])) w := by
  subst he
  exact retN ⟨0, noPl, noPl, nilSl, Emp⟩ (fun h => absurd h hn) (by unfold rollO; rw [if_neg hn]) (by rw [if_neg hn]; exact List.nil_sublist _)
theorem en23 : Gx.Enters Tryz.prog 23 := Gx.Enters.mk' (by kernel_rfl)
theorem z58 : (Tryz.prog.info? 58).bind (·.zero) = some (eRollRoll.val eRollRoll.zero) := by kernel_rfl
theorem en24 : Gx.Enters Tryz.prog 24 := Gx.Enters.mk' (by kernel_rfl)
theorem en25 : Gx.Enters Tryz.prog 25 := Gx.Enters.mk' (by kernel_rfl)
set_option maxRecDepth 8000 in
theorem new_ok (c1 c2 : SConf) (l1 l2 : CL) (u : Value) (ss : List SStage) (w : World) (hc1 : ConfAt w c1 l1) (hc2 : ConfAt w c2 l2) (hu : IsSl eStage w u ss) (hn1 : l1.Names) (hn2 : l2.Names) (hz1 : l1.n ≤ 4611686018427387904) (hz2 : l2.n ≤ 4611686018427387904) (hss : ss.length * 24 ≤ 140737488355328) : Calls Tryz.prog 8 #[eConf.val c1, eConf.val c2, u] w (RetW31 w l1 l2 c1.default c2.default ss) := by
  refine en0 40 Tryz.func8 ?_
  refine sg (cons (box (E := eConf) (.t rfl) (fun b1 => ?_)))
  refine cons (box (E := eConf) (.t rfl) (fun b2 => ?_))
  refine co (Ev.assign (.c (v := (Go.Value.pointer none)) rfl)) ?_
  refine co (Ev.assign (.c (v := I 0) rfl)) ?_
  refine nP (seq (emp0 ?_))
  refine region (mv rfl (cons (callo en23 (.cons (.t rfl) .nil) (fun w I => clone_37 _ _ w (hu.keep0 I.keeps) hss) (fun v3 => ?_))))
  refine co (Ev.buildS (fs := _) (places := [(0, 1), (1, 1), (2, 1), (3, 1)]) z58 rfl Tryz.underlying58 (by kernel_rfl) (.cons (.t rfl) .nil) (Fills.cons SRollRoll.l_stages rfl Fills.nil)) ?_
  refine cons (box (E := eRollRoll) (.t rfl) (fun b4 => ?_))
  refine asn rfl (nP (sg (co (Ev.assign (.c (v := I 0) rfl)) ?_)))
  refine nP (seq (sg (mv rfl (co (Ev.ldv ty28 (.t rfl) (Lens.id _)) ?_))))
  refine cons (calln (X := Pl × List Res) (CompileJ l1 c1.default) (fun x : Pl × List Res => .tuple #[.pointer (plO l1 c1.default x.1.b), I (plE l1 c1.default)]) (fun x => x.2) en24 (.cons (.t rfl) .nil) (fun w I => compile_plan c1 l1 w (hc1.keep0 I.keeps) hn1 hz1) (fun x1 hx1 => ?_))
  refine takeSeps (r := Emp) (by repeat first | exact Rem.head | apply Rem.tail) ?_
  refine mv rfl (co (Ev.to (v' := (plV l1 c1.default x1.1.b).v) (Ev.extract (.t rfl) rfl) (rfl)) ?_)
  refine co (Ev.extract (.t rfl) rfl) (co (Ev.nilCheck (.t rfl)) ?_)
  refine co (fA 0 (.t rfl)) ?_
  refine cons (stv ty51 SRollRoll.l_old (.t rfl) (.t rfl) ?_)
  refine asn rfl (nP (sg (mv rfl (co (Ev.neq_i (.t rfl) (.c (v := I 0) rfl)) ?_))))
  refine nP ?_
  first | refine condD rfl (fun h0 => ?_) (fun h0 => ?_) | refine cond rfl (fun h0 => ?_) (fun h0 => ?_)
  · have h0 : plE l1 c1.default ≠ 0 := by simpa using h0
    refine sg (mv rfl (co (Ev.assign (.c (v := (Go.Value.pointer none)) rfl)) ?_))
    refine asn rfl (nP (ret (pR (done rfl (.tmp rfl (.tmp rfl .nil)) (fun w I => ?_)))))
    exact new_bad (by unfold rollE; rw [if_pos h0]) h0 w I
  · have h0 : ¬ plE l1 c1.default ≠ 0 := by simpa using h0
    refine skip (pN (seq (sg (mv rfl (co (Ev.ldv ty28 (.t rfl) (Lens.id _)) ?_)))))
    refine cons (calln (X := Pl × List Res) (CompileJ l2 c2.default) (fun x : Pl × List Res => .tuple #[.pointer (plO l2 c2.default x.1.b), I (plE l2 c2.default)]) (fun x => x.2) en24 (.cons (.t rfl) .nil) (fun w I => compile_plan c2 l2 w (hc2.keep0 I.keeps) hn2 hz2) (fun x2 hx2 => ?_))
    refine takeSeps (r := Seps Emp x1.2) (by repeat first | exact Rem.head | apply Rem.tail) ?_
    refine mv rfl (co (Ev.to (v' := (plV l2 c2.default x2.1.b).v) (Ev.extract (.t rfl) rfl) (rfl)) ?_)
    refine co (Ev.extract (.t rfl) rfl) (co (Ev.nilCheck (.t rfl)) ?_)
    refine co (fA 1 (.t rfl)) ?_
    refine cons (stv ty51 SRollRoll.l_new (.t rfl) (.t rfl) ?_)
    refine asn rfl (nP (sg (mv rfl (co (Ev.neq_i (.t rfl) (.c (v := I 0) rfl)) ?_))))
    refine nP ?_
    first | refine condD rfl (fun h1 => ?_) (fun h1 => ?_) | refine cond rfl (fun h1 => ?_) (fun h1 => ?_)
    · have h1 : plE l2 c2.default ≠ 0 := by simpa using h1
      refine sg (mv rfl (co (Ev.assign (.c (v := (Go.Value.pointer none)) rfl)) ?_))
      refine asn rfl (nP (ret (pR (done rfl (.tmp rfl (.tmp rfl .nil)) (fun w I => ?_)))))
      exact new_bad (by unfold rollE; rw [if_neg h0, if_pos h1]) h1 w I
    · have h1 : ¬ plE l2 c2.default ≠ 0 := by simpa using h1
      refine skip (pN (seq (sg (mv rfl (cons (callv en25 (.cons (.t rfl) .nil) (fun w I => rollmay_ok _ ss w (hu.keep0 I.keeps)) ?_))))))
      refine co (Ev.not (.t rfl)) ?_
      refine nP ?_
      first | refine condD rfl (fun h2 => ?_) (fun h2 => ?_) | refine cond rfl (fun h2 => ?_) (fun h2 => ?_)
      · have h2 : (stagesB ss 0 && decide (0 < ss.length)) = false := by
          have h9 : (!(stagesB ss 0 && decide (0 < ss.length))) = true := h2
          simpa only [Bool.not_eq_true'] using h9
        refine sg (co (Ev.assign (.c (v := (Go.Value.pointer none)) rfl)) ?_)
        refine co (Ev.assign (.c (v := I 310) rfl)) ?_
        refine nP (ret (pR (done rfl (.tmp rfl (.tmp rfl .nil)) (fun w I => ?_))))
        exact new_bad (by unfold rollE; rw [if_neg h0, if_neg h1, if_pos h2]) (by decide) w I
      · have h2 : (stagesB ss 0 && decide (0 < ss.length)) = true := by
          have h9 : (!(stagesB ss 0 && decide (0 < ss.length))) = false := h2
          simpa only [Bool.not_eq_false'] using h9
        refine skip (pN (sg (mv rfl (asn rfl (co (Ev.assign (.c (v := I 0) rfl)) ?_)))))
        refine nP (ret (done rfl (.tmp rfl (.tmp rfl .nil)) (fun w I => ?_)))
        have e0 : rollE l1 l2 c1.default c2.default ss = 0 := by unfold rollE; rw [if_neg h0, if_neg h1, if_neg (by rw [h2]; decide)]
        have hm1 := pl_ok h0
        have hm2 := pl_ok h1
        obtain ⟨k1, k2⟩ := hx1 hm1
        obtain ⟨k3, k4⟩ := hx2 hm2
        have hst := (Bool.and_eq_true _ _).mp h2
        have k6 : ∀ w, (Seps (Seps Emp x1.2) x2.2).A w → PlanAt w x1.1 l1 c1.default ∧ PlanAt w x2.1 l2 c2.default := fun w1 a1 => ⟨k2 w1 (Seps.A _ _ (Seps.A _ _ a1).1).2, k4 w1 (Seps.A _ _ a1).2⟩
        have k7 : (⟨plV l1 c1.default x1.1.b, plV l2 c2.default x2.1.b, v3, eRollRoll.zero.state⟩ : SRollRoll) = recR x1.1.b x2.1.b v3 0 := by rw [plV_ok hm1, plV_ok hm2]; rfl
        refine retNP (⟨b4, x1.1, x2.1, v3, Seps (Seps Emp x1.2) x2.2⟩ : RX) (fun _ => ⟨k1, k3, hst.1, of_decide_eq_true hst.2, k6⟩) (by rw [e0]; rfl) ?_ w I
        rw [if_pos e0]
        unfold RX.R RX.rv
        simp only []
        rw [← k7]
        exact (by repeat first | exact SubP.nil | refine SubP.cons (by repeat first | exact Rem.head | apply Rem.tail) ?_)
end Go.Proofs.YtakmoeladkajdaaGreat
namespace Go.Proofs.YtakmoeladkajdaaGreat
open Go Go.Gx Go.Proofs.YtakmoeladkajdaaGreat.Tri Go.Proofs.YtakmoeladkajdaaGreat.Oc
structure SJob where
  now : UInt64
  in_ : Int
  packet : OV
def SJob.to : (UInt64 × (Int × OV)) → SJob := fun x => ⟨x.1, x.2.1, x.2.2⟩
def SJob.of : SJob → (UInt64 × (Int × OV)) := fun x => (x.now, x.in_, x.packet)
def eJob : Enc SJob := isoE (prodE u64E (prodE iE (ovE nilSl))) SJob.to SJob.of
def SJob.l_now : Lens eJob u64E 0 := lIso _ SJob.to SJob.of (fun _ => rfl) (lFst u64E (prodE iE (ovE nilSl)))
@[simp] theorem SJob.get_now (x : SJob) : SJob.l_now.get x = x.now := rfl
@[simp] theorem SJob.set_now (x : SJob) (y : UInt64) : SJob.l_now.set x y = { x with now := y } := rfl
def SJob.l_in_ : Lens eJob iE 1 := lIso _ SJob.to SJob.of (fun _ => rfl) (Lens.comp (lSnd u64E (prodE iE (ovE nilSl))) (lFst iE (ovE nilSl)))
@[simp] theorem SJob.get_in_ (x : SJob) : SJob.l_in_.get x = x.in_ := rfl
@[simp] theorem SJob.set_in_ (x : SJob) (y : Int) : SJob.l_in_.set x y = { x with in_ := y } := rfl
def SJob.l_packet : Lens eJob (ovE nilSl) 2 := lIso _ SJob.to SJob.of (fun _ => rfl) (Lens.comp (lSnd u64E (prodE iE (ovE nilSl))) (Lens.comp (lSnd iE (ovE nilSl)) (Lens.id (ovE nilSl))))
@[simp] theorem SJob.get_packet (x : SJob) : SJob.l_packet.get x = x.packet := rfl
@[simp] theorem SJob.set_packet (x : SJob) (y : OV) : SJob.l_packet.set x y = { x with packet := y } := rfl
def GateOK {σ : Type} (g : Value) (S : σ → Res) (J : σ → UInt8 → σ → Prop) (D : σ → Prop) : Prop := ∀ (s : σ) (o : UInt8) (w : World), D s → At (S s) w → Calls Tryz.prog 32 #[g, U8 o] w (Gx.RetR w (S s) (J s o) (fun _ => .tuple #[]) S)
theorem gate_nil : GateOK nilIf.v (fun _ : Unit => Emp) (fun _ _ _ => True) (fun _ => True) := fun s o w _ h => (step_nil o w).mono fun e w' ⟨h1, h2⟩ => ⟨(), trivial, h1, h2.mono (fun _ h => h.elim), trivial, fun b hb => hb.elim⟩
def partK (bs : List UInt8) : UInt64 := (partV (ofK (readH bs)) 100).1
def pE (bs : List UInt8) : Int := if readE bs ≠ 0 then readE bs else deE (readH bs) (readD bs).length
def pV (l : CL) (d n : Int) (bs : List UInt8) : SVerdict := dvV l d n (readH bs) (readD bs).length
def oldB (ss : List SStage) (n : UInt64) (bs : List UInt8) : Bool := decide ((splitS n).end_ = 2) || decide (UInt64.ofInt (ss.getD (splitS n).stage.toNat eStage.zero).parts ≤ partK bs)
def way (ss : List SStage) (n : UInt64) (bs : List UInt8) : Nat := if (splitS n).end_ = 1 then 0 else if oldB ss n bs = true then 1 else 2
def passV (l1 l2 : CL) (d1 d2 i : Int) (ss : List SStage) (n : UInt64) (bs : List UInt8) : SVerdict := if pE bs ≠ 0 then eVerdict.zero else if way ss n bs = 1 then pV l1 d1 i bs else pV l2 d2 i bs
def passB (ss : List SStage) (n : UInt64) (bs : List UInt8) : Bool := if pE bs ≠ 0 then false else decide (way ss n bs ≠ 1)
def passW (l2 : CL) (d2 i : Int) (ss : List SStage) (n : UInt64) (bs : List UInt8) : UInt64 := if pE bs ≠ 0 then n else if way ss n bs = 2 then wordS (nextS ss (splitS n) (decide (¬ (pV l2 d2 i bs).action = 3))) else n
def passS {σ : Type} (J : σ → UInt8 → σ → Prop) (s : σ) (ss : List SStage) (n : UInt64) (bs : List UInt8) (s2 : σ) : Prop := if pE bs ≠ 0 then s2 = s else if way ss n bs = 2 then ∃ t, J s 1 t ∧ J t 5 s2 else J s 1 s2
theorem readD_len' (b : List UInt8) (he : readE b = 0) : (readD b).length ≤ 2048 := by
  have h1 : ¬ ((frontB b).2.1 < frontN (frontB b).1 ∨ 2048 < (frontB b).2.1) := fun h => by
    unfold readE at he
    rw [if_pos h] at he
    split at he
    · exact absurd he (by assumption)
    · exact absurd he (by decide)
  unfold readD midD restOf
  simp
  omega
section
variable {l1 l2 : CL} {d1 d2 i : Int} {ss : List SStage} {n : UInt64} {bs : List UInt8}
theorem pass_bad (h : pE bs ≠ 0) : passV l1 l2 d1 d2 i ss n bs = eVerdict.zero ∧ passB ss n bs = false ∧ passW l2 d2 i ss n bs = n := ⟨if_pos h, if_pos h, if_pos h⟩
theorem passS_bad {σ : Type} (J : σ → UInt8 → σ → Prop) (s : σ) (h : pE bs ≠ 0) : passS J s ss n bs s := (if_pos h).mpr rfl
end
theorem sel3 {α : Type} {e : Int} {k : Nat} (a b c : α) (h : e = 0) : (if e ≠ 0 then a else if k = 1 then b else c) = if k = 1 then b else c := if_neg (fun q => q h)
theorem selW {α : Type} {e : Int} {k : Nat} (a b : α) (h : e = 0) : (if e ≠ 0 then a else if k = 2 then b else a) = if k = 2 then b else a := if_neg (fun q => q h)
theorem selB {e : Int} {k : Nat} (h : e = 0) : (if e ≠ 0 then false else decide (k ≠ 1)) = decide (k ≠ 1) := if_neg (fun q => q h)
theorem selS {α : Type} {e : Int} {k : Nat} (z a b : α) (h : e = 0) : (if e ≠ 0 then z else if k = 2 then b else a) = if k = 2 then b else a := if_neg (fun q => q h)
theorem pass_g (l1 l2 : CL) (d1 d2 i : Int) (ss : List SStage) (n : UInt64) (bs : List UInt8) {σ : Type} (J : σ → UInt8 → σ → Prop) (s s2 : σ) (k : Nat) (m : UInt64) (h : pE bs = 0) (hw : way ss n bs = k) (hm : wordS (nextS ss (splitS n) (decide (¬ (pV l2 d2 i bs).action = 3))) = m) :
    passV l1 l2 d1 d2 i ss n bs = (if k = 1 then pV l1 d1 i bs else pV l2 d2 i bs) ∧ passB ss n bs = decide (k ≠ 1) ∧ passW l2 d2 i ss n bs = (if k = 2 then m else n) ∧ passS J s ss n bs s2 = (if k = 2 then ∃ t, J s 1 t ∧ J t 5 s2 else J s 1 s2) := by
  subst hw
  subst hm
  exact ⟨sel3 _ _ _ h, selB h, selW _ _ h, selS _ _ _ h⟩
theorem pass_0 {l1 l2 : CL} {d1 d2 i : Int} {ss : List SStage} {n : UInt64} {bs : List UInt8} {σ : Type} (J : σ → UInt8 → σ → Prop) (s s2 : σ) (h : pE bs = 0) (hw : way ss n bs = 0) : passV l1 l2 d1 d2 i ss n bs = pV l2 d2 i bs ∧ passB ss n bs = true ∧ passW l2 d2 i ss n bs = n ∧ passS J s ss n bs s2 = J s 1 s2 := by
  obtain ⟨q1, q2, q3, q4⟩ := pass_g l1 l2 d1 d2 i ss n bs J s s2 0 _ h hw rfl
  rw [if_neg (show ¬ (0:Nat) = 1 by decide)] at q1
  rw [if_neg (show ¬ (0:Nat) = 2 by decide)] at q3 q4
  exact ⟨q1, q2, q3, q4⟩
theorem pass_1 {l1 l2 : CL} {d1 d2 i : Int} {ss : List SStage} {n : UInt64} {bs : List UInt8} {σ : Type} (J : σ → UInt8 → σ → Prop) (s s2 : σ) (h : pE bs = 0) (hw : way ss n bs = 1) : passV l1 l2 d1 d2 i ss n bs = pV l1 d1 i bs ∧ passB ss n bs = false ∧ passW l2 d2 i ss n bs = n ∧ passS J s ss n bs s2 = J s 1 s2 := by
  obtain ⟨q1, q2, q3, q4⟩ := pass_g l1 l2 d1 d2 i ss n bs J s s2 1 _ h hw rfl
  rw [if_pos (show (1:Nat) = 1 by decide)] at q1
  rw [if_neg (show ¬ (1:Nat) = 2 by decide)] at q3 q4
  exact ⟨q1, q2, q3, q4⟩
theorem pass_2 {l1 l2 : CL} {d1 d2 i : Int} {ss : List SStage} {n : UInt64} {bs : List UInt8} {σ : Type} (J : σ → UInt8 → σ → Prop) (s s2 : σ) {m : UInt64} (h : pE bs = 0) (hw : way ss n bs = 2) (hm : wordS (nextS ss (splitS n) (decide (¬ (pV l2 d2 i bs).action = 3))) = m) : passV l1 l2 d1 d2 i ss n bs = pV l2 d2 i bs ∧ passB ss n bs = true ∧ passW l2 d2 i ss n bs = m ∧ passS J s ss n bs s2 = ∃ t, J s 1 t ∧ J t 5 s2 := by
  obtain ⟨q1, q2, q3, q4⟩ := pass_g l1 l2 d1 d2 i ss n bs J s s2 2 m h hw hm
  rw [if_neg (show ¬ (2:Nat) = 1 by decide)] at q1
  rw [if_pos (show (2:Nat) = 2 by decide)] at q3 q4
  exact ⟨q1, q2, q3, q4⟩
theorem decide_to (p : Pl) (l : CL) (d n : Int) (h : SHeader) (dt : List UInt8) (V : SVerdict) (e : Int) (w : World) (hp : PlanAt w p l d) (ho : PlanOK p l d) (hd : IsSl u8E w h.data.v dt) (hl : dt.length ≤ 1152921504606846975) (hV : dvV l d n h dt.length = V) (he : deE h dt.length = e) : Calls Tryz.prog 31 #[.pointer (some ⟨p.b, 0, none⟩), I n, eHeader.val h] w (RetV w (.tuple #[eVerdict.val V, I e])) := by
  subst hV
  subst he
  exact decide_ok p l d n h dt w hp ho hd hl
theorem part_to (k : SKey) (z : UInt64) (w : World) (h : (partV k 100).1 = z) : Calls Tryz.prog 11 #[eKey.val k] w (RetV w (U64 z)) := h ▸ rollpart_ok k w
theorem word_to (s : SRollState) (m : UInt64) (w : World) (h : wordS s = m) : Calls Tryz.prog 36 #[eRollState.val s] w (RetV w (U64 m)) := h ▸ word_ok s w
def RG {σ : Type} (x : RX) (n : UInt64) (S : σ → Res) (s : σ) : Res := Sep (Var x.b eRollRoll (x.rv n) 58) (S s)
theorem en29 : Gx.Enters Tryz.prog 29 := Gx.Enters.mk' (by kernel_rfl)
theorem en30 : Gx.Enters Tryz.prog 30 := Gx.Enters.mk' (by kernel_rfl)
theorem en11 : Gx.Enters Tryz.prog 11 := Gx.Enters.mk' (by kernel_rfl)
theorem en31 : Gx.Enters Tryz.prog 31 := Gx.Enters.mk' (by kernel_rfl)
theorem en35 : Gx.Enters Tryz.prog 35 := Gx.Enters.mk' (by kernel_rfl)
theorem en36 : Gx.Enters Tryz.prog 36 := Gx.Enters.mk' (by kernel_rfl)
theorem en37 : Gx.Enters Tryz.prog 37 := Gx.Enters.mk' (by kernel_rfl)
set_option maxRecDepth 8000 in
set_option maxHeartbeats 1000000 in
theorem pass_ok {σ : Type} (S : σ → Res) (J : σ → UInt8 → σ → Prop) (D : σ → Prop) (g : Value) (hg : GateOK g S J D) (s : σ) (hD : D s) (hD1 : ∀ s1, J s 1 s1 → D s1) (x0 : RX) (l1 l2 : CL) (d1 d2 : Int) (ss : List SStage) (n : UInt64) (j : SJob) (bs : List UInt8) (w : World) (h : At (RG x0 n S s) w) (hN : ∀ w2, Keeps (RG x0 n S s).foot w w2 → RollAt w2 x0 l1 l2 d1 d2 ss) (hb : ∀ w2, Keeps (RG x0 n S s).foot w w2 → IsSl u8E w2 j.packet.v bs) (ho1 : PlanOK x0.p l1 d1) (ho2 : PlanOK x0.q l2 d2) (hs : (splitS n).stage.toNat < ss.length) (hl : ss.length ≤ 256) : Calls Tryz.prog 13 #[.pointer (some ⟨x0.b, 0, none⟩), g, eJob.val j] w (Gx.RetR w (RG x0 n S s) (passS J s ss n bs) (fun _ => .tuple #[eVerdict.val (passV l1 l2 d1 d2 j.in_ ss n bs), .bool (passB ss n bs), I (pE bs)]) (fun s2 => RG x0 (passW l2 d2 j.in_ ss n bs) S s2)) := by
  obtain ⟨vn, hvn⟩ : ∃ z, pV l2 d2 j.in_ bs = z := ⟨_, rfl⟩
  obtain ⟨vo, hvo⟩ : ∃ z, pV l1 d1 j.in_ bs = z := ⟨_, rfl⟩
  obtain ⟨pk, hpk⟩ : ∃ z, partK bs = z := ⟨_, rfl⟩
  obtain ⟨de, hde⟩ : ∃ z, deE (readH bs) (readD bs).length = z := ⟨_, rfl⟩
  refine enter (RG x0 n S s).foot 110 [RG x0 n S s] Tryz.func13 rfl rfl (Nat.le_of_ble_eq_true rfl) (start_at h) ?_
  refine sepOut Rem.head ?_
  refine sg (cons (box (E := eJob) (.t rfl) (fun b1 => ?_)))
  refine cons (alloc z60 (fun b2 => ?_))
  refine co (Ev.assign (.c (v := .bool false) rfl)) ?_
  refine co (Ev.assign (.c (v := I 0) rfl)) ?_
  refine nP (seq (sg (mv rfl (cons (callv en28 (.cons (.t rfl) .nil) (fun w I => rthere_ok x0.b x0.q.b _ w (ptsVar (by repeat first | exact mH | apply mT | apply mA) (Lens.id _) w I) rfl) ?_)))))
  refine co (Ev.not (.t rfl)) ?_
  refine nP (condF rfl (rfl) ?_)
  refine skip (pN (sg (co (fA 2 (.t rfl)) ?_)))
  refine co (Ev.ldx j.packet ty63 (.t rfl) SJob.l_packet) ?_
  refine cons (calln (X := OV) (fun o : OV => readE bs ≠ 0 → o = nilSl) (fun o => .tuple #[eHeader.val (wD (readH bs) o), I (readN bs), I (readE bs)]) (fun o => if readE bs = 0 then [OwnS o.v u8E (readD bs) 5] else []) en29 (.cons (.t rfl) .nil) (fun w I => read_ok _ bs w (hb w I.keeps)) (fun xo hxo => ?_))
  refine mv rfl (co (Ev.extract (.t rfl) rfl) (co (Ev.extract (.t rfl) rfl) (co (Ev.extract (.t rfl) rfl) (cons (alloc z93 (fun b3 => ?_))))))
  refine cons (stv ty93 (Lens.id _) (.t rfl) (.t rfl) ?_)
  refine asn rfl (asn rfl (nP (seq (sg (mv rfl (co (Ev.neq_i (.t rfl) (.c (v := I 0) rfl)) ?_))))))
  refine nP ?_
  first | refine condD rfl (fun h1 => ?_) (fun h1 => ?_) | refine cond rfl (fun h1 => ?_) (fun h1 => ?_)
  · have h1 : readE bs ≠ 0 := by simpa using h1
    rw [if_neg h1]
    refine sg (co (Ev.buildS (fs := _) (places := [(0, 1), (1, 1), (2, 1), (3, 1), (4, 1)]) z60 rfl Tryz.underlying60 (by kernel_rfl) .nil Fills.nil) ?_)
    refine mv rfl (cons (stv ty60 (Lens.id _) (.t rfl) (.t rfl) ?_))
    refine co (Ev.assign (.c (v := .bool false) rfl)) ?_
    refine asn rfl (nP (ret (pR (done rfl (.cell rfl (fun w I => run_loadVar_pts ty60 (ptsVar (by repeat first | exact mH | apply mT | apply mA) (Lens.id _) w I)) (.tmp rfl (.tmp rfl .nil))) (fun w I => ?_)))))
    have e : pE bs ≠ 0 := by unfold pE; rw [if_pos h1]; exact h1
    have e2 : pE bs = readE bs := by unfold pE; rw [if_pos h1]
    obtain ⟨q1, q2, q3⟩ := pass_bad (l1 := l1) (l2 := l2) (d1 := d1) (d2 := d2) (i := j.in_) (ss := ss) (n := n) e
    rw [q1, q2, q3, e2]
    exact Gx.retR (r' := fun s2 => RG x0 n S s2) s (passS_bad J s e) rfl (List.mem_singleton_self _) w (WInv.sepIn (I.subP (by repeat first | exact SubP.nil | refine SubP.cons (by repeat first | exact Rem.head | apply Rem.tail) ?_)))
  · have h1 : readE bs = 0 := by simpa using h1
    have hdl := readD_len' bs h1
    rw [if_pos h1]
    refine skip (pN (sg (co (Ev.ldv ty93 (.t rfl) (Lens.id _)) ?_)))
    refine cons (callv en30 (.cons (.t rfl) .nil) (fun w I => Oc.of_ok _ w) ?_)
    refine cons (callv en11 (.cons (.t rfl) .nil) (fun w I => part_to _ _ w hpk) ?_)
    refine asn rfl (nP (cut (X := Nat) (fun x : Nat => True) (fun x : Nat => [dz, (0, true, .pointer (some ⟨x0.b, 0, none⟩)), (1, true, g), (5, true, .pointer (some ⟨b1, 0, none⟩)), (6, true, .pointer (some ⟨b2, 0, none⟩)), (9, true, .pointer (some ⟨b3, 0, none⟩)), (11, true, I de), (12, true, U64 pk), (13, true, .pointer (some ⟨x, 0, none⟩))]) (fun x : Nat => [Var x eVerdict vn 60, Var b3 eHeader (wD (readH bs) xo) 93, OwnS xo.v u8E (readD bs) 5, Var b2 eVerdict eVerdict.zero 60, Var b1 eJob j 65, Var x0.b eRollRoll (x0.rv n) 58, S s]) ?_ (fun x hx => ?_)))
    · refine draw' (by kernel_rfl) ?_
      refine tk 0 rfl (Ev.move (.t rfl)) ?_
      refine tk 1 rfl (Ev.nilCheck (.t rfl)) ?_
      refine tk 2 rfl (fA 1 (.t rfl)) ?_
      refine tk 3 rfl (Ev.to (v' := .pointer (some ⟨x0.q.b, 0, none⟩)) (Ev.ldv ty51 (.t rfl) SRollRoll.l_new) (rfl)) ?_
      refine tk 4 rfl (fA 1 (.t rfl)) ?_
      refine tk 5 rfl (Ev.ldx j.in_ ty3 (.t rfl) SJob.l_in_) ?_
      refine tk 6 rfl (Ev.ldv ty93 (.t rfl) (Lens.id _)) ?_
      refine all [7, 11] (by kernel_rfl) (by decide) (.cons rfl ?_ (.cons rfl ?_ .nil))
      · refine (callv en31 (.cons (.t rfl) (.cons (.t rfl) (.cons (.t rfl) .nil))) (fun w I => decide_to x0.q l2 d2 _ (wD (readH bs) xo) (readD bs) _ _ w (hN w I.keeps).q ho2 (io w I) (by omega) hvn hde) ?_)
        refine hdn (tk 8 rfl (Ev.move (.t rfl)) ?_)
        refine tk 9 rfl (Ev.extract (.t rfl) rfl) ?_
        refine tk 10 rfl (Ev.extract (.t rfl) rfl) ?_
        refine al1 11 rfl ((alloc z60 (fun b4 => ?_)))
        refine hdn (al1 12 rfl ((stv ty60 (Lens.id _) (.t rfl) (.t rfl) ?_)))
        refine hdn (tk 13 rfl (Ev.assign (.t rfl)) ?_)
        refine ovr (pN (mtP (X := Nat) (_) trivial))
      · refine (alloc z60 (fun b5 => ?_))
        refine hdn (al1 7 rfl ((callv en31 (.cons (.t rfl) (.cons (.t rfl) (.cons (.t rfl) .nil))) (fun w I => decide_to x0.q l2 d2 _ (wD (readH bs) xo) (readD bs) _ _ w (hN w I.keeps).q ho2 (io w I) (by omega) hvn hde) ?_)))
        refine hdn (tk 8 rfl (Ev.move (.t rfl)) ?_)
        refine tk 9 rfl (Ev.extract (.t rfl) rfl) ?_
        refine tk 10 rfl (Ev.extract (.t rfl) rfl) ?_
        refine al1 12 rfl ((stv ty60 (Lens.id _) (.t rfl) (.t rfl) ?_))
        refine hdn (tk 13 rfl (Ev.assign (.t rfl)) ?_)
        refine ovr (pN (mtP (X := Nat) (_) trivial))
    obtain ⟨x3, rfl⟩ : ∃ y, y = x := ⟨x, rfl⟩
    show Sat _ _ [dz, (0, true, .pointer (some ⟨x0.b, 0, none⟩)), (1, true, g), (5, true, .pointer (some ⟨b1, 0, none⟩)), (6, true, .pointer (some ⟨b2, 0, none⟩)), (9, true, .pointer (some ⟨b3, 0, none⟩)), (11, true, I de), (12, true, U64 pk), (13, true, .pointer (some ⟨x3, 0, none⟩))] [Var x3 eVerdict vn 60, Var b3 eHeader (wD (readH bs) xo) 93, OwnS xo.v u8E (readD bs) 5, Var b2 eVerdict eVerdict.zero 60, Var b1 eJob j 65, Var x0.b eRollRoll (x0.rv n) 58, S s]
    refine seq (sg (mv rfl (co (Ev.neq_i (.t rfl) (.c (v := I 0) rfl)) ?_)))
    refine nP ?_
    first | refine condD rfl (fun h2 => ?_) (fun h2 => ?_) | refine cond rfl (fun h2 => ?_) (fun h2 => ?_)
    · have h2 : de ≠ 0 := by simpa using h2
      refine sg (co (Ev.buildS (fs := _) (places := [(0, 1), (1, 1), (2, 1), (3, 1), (4, 1)]) z60 rfl Tryz.underlying60 (by kernel_rfl) .nil Fills.nil) ?_)
      refine mv rfl (cons (stv ty60 (Lens.id _) (.t rfl) (.t rfl) ?_))
      refine co (Ev.assign (.c (v := .bool false) rfl)) ?_
      refine asn rfl (nP (ret (pR (done rfl (.cell rfl (fun w I => run_loadVar_pts ty60 (ptsVar (by repeat first | exact mH | apply mT | apply mA) (Lens.id _) w I)) (.tmp rfl (.tmp rfl .nil))) (fun w I => ?_)))))
      have e : pE bs ≠ 0 := by unfold pE; rw [if_neg (fun k => k h1), hde]; exact h2
      have e2 : pE bs = de := by unfold pE; rw [if_neg (fun k => k h1), hde]
      obtain ⟨q1, q2, q3⟩ := pass_bad (l1 := l1) (l2 := l2) (d1 := d1) (d2 := d2) (i := j.in_) (ss := ss) (n := n) e
      rw [q1, q2, q3, e2]
      exact Gx.retR (r' := fun s2 => RG x0 n S s2) s (passS_bad J s e) rfl (List.mem_singleton_self _) w (WInv.sepIn (I.subP (by repeat first | exact SubP.nil | refine SubP.cons (by repeat first | exact Rem.head | apply Rem.tail) ?_)))
    · have h2 : de = 0 := by simpa using h2
      have he0 : pE bs = 0 := by unfold pE; rw [if_neg (fun k => k h1), hde]; exact h2
      refine skip (pN (block (lp (X := Unit) (fun _ : Unit => True) (fun _ : Unit => [dz, (0, true, .pointer (some ⟨x0.b, 0, none⟩)), (1, true, g), (5, true, .pointer (some ⟨b1, 0, none⟩)), (6, true, .pointer (some ⟨b2, 0, none⟩)), (9, true, .pointer (some ⟨b3, 0, none⟩)), (12, true, U64 pk), (13, true, .pointer (some ⟨x3, 0, none⟩))]) (fun _ : Unit => [Var x3 eVerdict vn 60, Var b3 eHeader (wD (readH bs) xo) 93, OwnS xo.v u8E (readD bs) 5, Var b2 eVerdict eVerdict.zero 60, Var b1 eJob j 65, Var x0.b eRollRoll (x0.rv n) 58, S s]) (fun _ : Unit => 0) () trivial (fun x hx => ?_))))
      show Sat _ _ [dz, (0, true, .pointer (some ⟨x0.b, 0, none⟩)), (1, true, g), (5, true, .pointer (some ⟨b1, 0, none⟩)), (6, true, .pointer (some ⟨b2, 0, none⟩)), (9, true, .pointer (some ⟨b3, 0, none⟩)), (12, true, U64 pk), (13, true, .pointer (some ⟨x3, 0, none⟩))] [Var x3 eVerdict vn 60, Var b3 eHeader (wD (readH bs) xo) 93, OwnS xo.v u8E (readD bs) 5, Var b2 eVerdict eVerdict.zero 60, Var b1 eJob j 65, Var x0.b eRollRoll (x0.rv n) 58, S s]
      refine block (sg (mv rfl (cons (callr (X := σ) (J s 1) (fun _ => .tuple #[]) (r := S s) (r' := S) (fun _ => by repeat first | exact Upd.head | apply Upd.tail | apply Upd.right) (by repeat first | exact mH | apply mT | apply mA) en32 (.cons (.t rfl) (.cons (.c (v := U8 1) rfl) .nil)) (fun w I => hg s 1 w hD (am w I)) (fun s1 hs1 => ?_)))))
      refine nP (sg (mv rfl (co (Ev.nilCheck (.t rfl)) ?_)))
      refine co (fA 3 (.t rfl)) ?_
      refine cons (callv en33 (.cons (.t rfl) .nil) (fun w I => load64_ok _ _ n w (ptsVar (by repeat first | exact mH | apply mT | apply mA) (Lens.comp SRollRoll.l_state SAtomicUint64.l_v) w I)) ?_)
      refine asn rfl (nP (sg (mv rfl (cons (callv en34 (.cons (.t rfl) .nil) (fun w I => split_ok _ w) ?_)))))
      refine cons (alloc z102 (fun b6 => ?_))
      refine cons (stv ty102 (Lens.id _) (.t rfl) (.t rfl) ?_)
      refine nP (seq (sg (co (fA 0 (.t rfl)) ?_)))
      refine co (Ev.ldv ty35 (.t rfl) SRollState.l_end_) ?_
      refine co (Ev.eql_u64 (.t rfl) (.c (v := U64 1) rfl)) ?_
      refine nP ?_
      first | refine condD rfl (fun h3 => ?_) (fun h3 => ?_) | refine cond rfl (fun h3 => ?_) (fun h3 => ?_)
      · have h3 : (splitS n).end_ = 1 := by simpa using h3
        refine sg (co (Ev.ldv ty60 (.t rfl) (Lens.id _)) ?_)
        refine cons (stv ty60 (Lens.id _) (.t rfl) (.t rfl) ?_)
        refine co (Ev.assign (.c (v := .bool true) rfl)) ?_
        refine co (Ev.assign (.c (v := I 0) rfl)) ?_
        refine nP (ret (pR (bR (pR (bR (done rfl (.cell rfl (fun w I => run_loadVar_pts ty60 (ptsVar (by repeat first | exact mH | apply mT | apply mA) (Lens.id _) w I)) (.tmp rfl (.tmp rfl .nil))) (fun w I => ?_)))))))
        have ew : way ss n bs = 0 := by unfold way; rw [if_pos h3]
        obtain ⟨q1, q2, q3, q4⟩ := pass_0 (l1 := l1) (l2 := l2) (d1 := d1) (d2 := d2) (i := j.in_) (ss := ss) (n := n) J s s1 he0 ew
        rw [q1, q2, q3, he0, hvn]
        exact Gx.retR (r' := fun s2 => RG x0 n S s2) s1 (q4.mpr hs1) rfl (List.mem_singleton_self _) w (WInv.sepIn (I.subP (by repeat first | exact SubP.nil | refine SubP.cons (by repeat first | exact Rem.head | apply Rem.tail) ?_)))
      · have h3 : ¬ (splitS n).end_ = 1 := by simpa using h3
        refine skip (pN (seq (seq (draw' (by kernel_rfl) ?_))))
        refine tk 0 rfl (fA 0 (.t rfl)) ?_
        refine tk 1 rfl (Ev.ldv ty35 (.t rfl) SRollState.l_end_) ?_
        refine tk 2 rfl (Ev.eql_u64 (.t rfl) (.c (v := U64 2) rfl)) ?_
        refine tk 3 rfl (Ev.move (.t rfl)) ?_
        refine tkg 4 rfl rfl rfl (Ev.move (.t rfl)) ?_
        refine tkg 5 rfl rfl rfl (Ev.move (.t rfl)) ?_
        refine tkg 6 rfl rfl rfl (Ev.nilCheck (.g rfl id)) ?_
        refine tkg 7 rfl rfl rfl (fA 2 (.g rfl id)) ?_
        refine tkg 8 rfl rfl rfl (Ev.ldv ty29 (.g rfl id) SRollRoll.l_stages) ?_
        refine tkg 9 rfl rfl rfl (fA 1 (.t rfl)) ?_
        refine tkg 10 rfl rfl rfl (Ev.ldv ty35 (.g rfl id) SRollState.l_stage) ?_
        refine tkg 11 rfl rfl rfl (indexAddrU Tryz.underlying29 ty37 (.g rfl (by simp_all)) (.g rfl (by simp_all)) (fun w I => (hN w I.keeps).s) hs) ?_
        refine tkg 12 rfl rfl rfl (Ev.fieldAddrS (o := 0) (i := ((splitS n).stage.toNat : Int)) (.g rfl id) (fun w I => (hN w I.keeps).s) (fun _ => ⟨by omega, by (show ((splitS n).stage.toNat : Int) < _); omega⟩) (by kernel_rfl)) ?_
        refine tkg 13 rfl rfl rfl (Ev.loadS ty3 SStage.l_parts rfl (.g rfl id) (fun w I => (hN w I.keeps).s) (fun _ => ⟨by omega, by (show ((splitS n).stage.toNat : Int) < _); omega⟩)) ?_
        refine tkg 14 rfl rfl rfl (Ev.conv_i_u64 Tryz.underlying35 Tryz.underlying3 (.g rfl id)) ?_
        refine tkg 15 rfl rfl rfl (Ev.geq_u64 (.g rfl id) (.g rfl id)) ?_
        refine tk 16 rfl (Ev.pkO (.t rfl) rfl) ?_
        refine ovr (pN ?_)
        first | refine condD rfl (fun h4 => ?_) (fun h4 => ?_) | refine cond rfl (fun h4 => ?_) (fun h4 => ?_)
        · have h4 : oldB ss n bs = true := by unfold oldB; rw [hpk]; exact h4
          refine cut (X := Nat) (fun x : Nat => True) (fun x : Nat => [dz, (6, true, .pointer (some ⟨b2, 0, none⟩)), (16, true, .pointer (some ⟨x, 0, none⟩)), (17, true, I 0)]) (fun x : Nat => [Var x eVerdict vo 60, Var b2 eVerdict eVerdict.zero 60, Var x0.b eRollRoll (x0.rv n) 58, S s1]) ?_ (fun x hx => ?_)
          · refine draw' (by kernel_rfl) ?_
            refine tk 0 rfl (Ev.move (.t rfl)) ?_
            refine tk 1 rfl (Ev.nilCheck (.t rfl)) ?_
            refine tk 2 rfl (fA 0 (.t rfl)) ?_
            refine tk 3 rfl (Ev.to (v' := .pointer (some ⟨x0.p.b, 0, none⟩)) (Ev.ldv ty51 (.t rfl) SRollRoll.l_old) (rfl)) ?_
            refine tk 4 rfl (fA 1 (.t rfl)) ?_
            refine tk 5 rfl (Ev.ldx j.in_ ty3 (.t rfl) SJob.l_in_) ?_
            refine tk 6 rfl (Ev.ldv ty93 (.t rfl) (Lens.id _)) ?_
            refine all [7, 11] (by kernel_rfl) (by decide) (.cons rfl ?_ (.cons rfl ?_ .nil))
            · refine (callv en31 (.cons (.t rfl) (.cons (.t rfl) (.cons (.t rfl) .nil))) (fun w I => decide_to x0.p l1 d1 _ (wD (readH bs) xo) (readD bs) _ _ w (hN w I.keeps).p ho1 (io w I) (by omega) hvo hde) ?_)
              refine hdn (tk 8 rfl (Ev.move (.t rfl)) ?_)
              refine tk 9 rfl (Ev.extract (.t rfl) rfl) ?_
              refine tk 10 rfl (Ev.to (v' := I 0) (Ev.extract (.t rfl) rfl) (congrArg Gx.I h2)) ?_
              refine al1 11 rfl ((alloc z60 (fun b7 => ?_)))
              refine hdn (al1 12 rfl ((stv ty60 (Lens.id _) (.t rfl) (.t rfl) ?_)))
              refine hdn (tk 13 rfl (Ev.assign (.t rfl)) ?_)
              refine ovr (pN (mtP (X := Nat) (_) trivial))
            · refine (alloc z60 (fun b8 => ?_))
              refine hdn (al1 7 rfl ((callv en31 (.cons (.t rfl) (.cons (.t rfl) (.cons (.t rfl) .nil))) (fun w I => decide_to x0.p l1 d1 _ (wD (readH bs) xo) (readD bs) _ _ w (hN w I.keeps).p ho1 (io w I) (by omega) hvo hde) ?_)))
              refine hdn (tk 8 rfl (Ev.move (.t rfl)) ?_)
              refine tk 9 rfl (Ev.extract (.t rfl) rfl) ?_
              refine tk 10 rfl (Ev.to (v' := I 0) (Ev.extract (.t rfl) rfl) (congrArg Gx.I h2)) ?_
              refine al1 12 rfl ((stv ty60 (Lens.id _) (.t rfl) (.t rfl) ?_))
              refine hdn (tk 13 rfl (Ev.assign (.t rfl)) ?_)
              refine ovr (pN (mtP (X := Nat) (_) trivial))
          obtain ⟨x4, rfl⟩ : ∃ y, y = x := ⟨x, rfl⟩
          show Sat _ _ [dz, (6, true, .pointer (some ⟨b2, 0, none⟩)), (16, true, .pointer (some ⟨x4, 0, none⟩)), (17, true, I 0)] [Var x4 eVerdict vo 60, Var b2 eVerdict eVerdict.zero 60, Var x0.b eRollRoll (x0.rv n) 58, S s1]
          refine sg (co (Ev.ldv ty60 (.t rfl) (Lens.id _)) ?_)
          refine mv rfl (cons (stv ty60 (Lens.id _) (.t rfl) (.t rfl) ?_))
          refine co (Ev.assign (.c (v := .bool false) rfl)) ?_
          refine asn rfl (nP (ret (pR (bR (pR (bR (done rfl (.cell rfl (fun w I => run_loadVar_pts ty60 (ptsVar (by repeat first | exact mH | apply mT | apply mA) (Lens.id _) w I)) (.tmp rfl (.tmp rfl .nil))) (fun w I => ?_))))))))
          have ew : way ss n bs = 1 := by unfold way; rw [if_neg h3, if_pos h4]
          obtain ⟨q1, q2, q3, q4⟩ := pass_1 (l1 := l1) (l2 := l2) (d1 := d1) (d2 := d2) (i := j.in_) (ss := ss) (n := n) J s s1 he0 ew
          rw [q1, q2, q3, he0, hvo]
          exact Gx.retR (r' := fun s2 => RG x0 n S s2) s1 (q4.mpr hs1) rfl (List.mem_singleton_self _) w (WInv.sepIn (I.subP (by repeat first | exact SubP.nil | refine SubP.cons (by repeat first | exact Rem.head | apply Rem.tail) ?_)))
        · have h4 : oldB ss n bs = false := by unfold oldB; rw [hpk]; exact h4
          refine skip (pN (seq ?_))
          obtain ⟨m, hm⟩ : ∃ z, wordS (nextS ss (splitS n) (decide (¬ vn.action = 3))) = z := ⟨_, rfl⟩
          refine region (mv rfl (co (Ev.ldv ty102 (.t rfl) (Lens.id _)) ?_))
          refine co (fA 0 (.t rfl)) ?_
          refine co (Ev.ldv ty3 (.t rfl) SVerdict.l_action) ?_
          refine co (Ev.neq_i (.t rfl) (.c (v := I 3) rfl)) ?_
          refine cons (callv en35 (.cons (.t rfl) (.cons (.t rfl) (.cons (.t rfl) .nil))) (fun w I => counted_ok x0.b (x0.rv n) ss (splitS n) _ w (ptsVar (by repeat first | exact mH | apply mT | apply mA) (Lens.id _) w I) (hN w I.keeps).s hs hl) ?_)
          refine cons (callv en36 (.cons (.t rfl) .nil) (fun w I => word_to _ m w hm) ?_)
          refine asn rfl (nP (sg (mv rfl (cons (callr (X := σ) (J s1 5) (fun _ => .tuple #[]) (r := S s1) (r' := S) (fun _ => by repeat first | exact Upd.head | apply Upd.tail | apply Upd.right) (by repeat first | exact mH | apply mT | apply mA) en32 (.cons (.t rfl) (.cons (.c (v := U8 5) rfl) .nil)) (fun w I => hg s1 5 w (hD1 _ hs1) (am w I)) (fun s2 hs2 => ?_))))))
          refine nP (sg (mv rfl (co (Ev.nilCheck (.t rfl)) ?_)))
          refine co (fA 3 (.t rfl)) ?_
          refine mv rfl (mv rfl (cons (callr (X := Unit) (fun _ => True) (fun _ => .bool true) (fun _ => by repeat first | exact Upd.head | apply Upd.tail | apply Upd.right) (by repeat first | exact mH | apply mT | apply mA) en37 (.cons (.t rfl) (.cons (.t rfl) (.cons (.t rfl) .nil))) (fun w I => cas64_ok (Lens.comp SRollRoll.l_state SAtomicUint64.l_v) x0.b (x0.rv n) _ 58 w (am w I)) (fun _ _ => ?_))))
          refine nP (condT rfl (rfl) ?_)
          refine sg (co (Ev.ldv ty60 (.t rfl) (Lens.id _)) ?_)
          refine cons (stv ty60 (Lens.id _) (.t rfl) (.t rfl) ?_)
          refine co (Ev.assign (.c (v := .bool true) rfl)) ?_
          refine co (Ev.assign (.c (v := I 0) rfl)) ?_
          refine nP (ret (bR (pR (bR (done rfl (.cell rfl (fun w I => run_loadVar_pts ty60 (ptsVar (by repeat first | exact mH | apply mT | apply mA) (Lens.id _) w I)) (.tmp rfl (.tmp rfl .nil))) (fun w I => ?_))))))
          have ew : way ss n bs = 2 := by unfold way; rw [if_neg h3, if_neg (by rw [h4]; exact Bool.false_ne_true)]
          obtain ⟨q1, q2, q3, q4⟩ := pass_2 (l1 := l1) (l2 := l2) (d1 := d1) (d2 := d2) (i := j.in_) (ss := ss) (n := n) J s s2 he0 ew (m := m) (by rw [hvn]; exact hm)
          rw [q1, q2, q3, he0, hvn]
          exact Gx.retR (r' := fun s2 => RG x0 m S s2) s2 (q4.mpr ⟨s1, hs1, hs2⟩) rfl (List.mem_singleton_self _) w (WInv.sepIn (I.subP (by repeat first | exact SubP.nil | refine SubP.cons (by repeat first | exact Rem.head | apply Rem.tail) ?_)))
end Go.Proofs.YtakmoeladkajdaaGreat
namespace Go.Proofs.YtakmoeladkajdaaGreat
open Go Go.Gx Go.Proofs.YtakmoeladkajdaaGreat.Tri Go.Proofs.YtakmoeladkajdaaGreat.Oc
def hdr9 (i : UInt16) : SHeader := { eHeader.zero with proto := 17, srcPort := i, dstPort := 9, tTL := 5 }
def oneN (low : Bool) : Nat := if low = true then 1 else 0
def oneB (low : Bool) : List UInt8 := makeB (hdr9 (UInt16.ofNat (oneN low))) []
theorem chk9 (k : Nat) (h : k ≤ 1) : checkH (hdr9 (UInt16.ofNat k)) 0 = 0 := by
  have h2 : k = 0 ∨ k = 1 := by omega
  rcases h2 with rfl | rfl
  · decide +kernel
  · decide +kernel
theorem one_le (low : Bool) : oneN low ≤ 1 := by unfold oneN; split <;> omega
theorem one_lt {low : Bool} {i : Int} (h : 0 ≤ i ∧ i ≤ oneN low) : i < 4096 := by
  have := one_le low
  omega
theorem one_l1 {low : Bool} {i : Int} (h : 0 ≤ i ∧ i ≤ oneN low) : i.toNat ≤ 1 := by
  have := one_le low
  omega
theorem one_tab (low : Bool) (k : Nat) (h : k ≤ oneN low) : (decide ((partV (ofK (hdr9 (UInt16.ofNat k))) 100).1 < 50) == low) = decide (k = oneN low) := by
  have h0 : decide ((partV (ofK (hdr9 (UInt16.ofNat 0))) 100).1 < 50) = false := by decide +kernel
  have h1 : decide ((partV (ofK (hdr9 (UInt16.ofNat 1))) 100).1 < 50) = true := by decide +kernel
  cases low with
  | false =>
    obtain rfl : k = 0 := by simpa [oneN] using h
    rw [h0]; rfl
  | true =>
    have h2 : k = 0 ∨ k = 1 := by
      have : k ≤ 1 := by simpa [oneN] using h
      omega
    rcases h2 with rfl | rfl
    · rw [h0]; rfl
    · rw [h1]; rfl
theorem ofInt9 {low : Bool} {i : Int} (h : 0 ≤ i ∧ i ≤ oneN low) : UInt16.ofInt i = UInt16.ofNat i.toNat := by
  have := one_le low
  have h2 : i = 0 ∨ i = 1 := by omega
  rcases h2 with rfl | rfl <;> decide
theorem make_to (h : SHeader) (w : World) (hd : h.data = nilSl) (hc : checkH h 0 = 0) : Calls Tryz.prog 38 #[eHeader.val h] w (RetN w (fun _ : OV => True) (fun o => .tuple #[o.v, I 0]) (fun o => [OwnS o.v u8E (makeB h []) 5])) := by
  refine (make_ok h [] w (by rw [hd]; exact IsSl.nil _ w) (by simp)).mono ?_
  rintro e w' ⟨o, _, he, hk, hn⟩
  have hc2 : checkH h (([] : List UInt8).length : Int) = 0 := hc
  rw [hc2] at he
  simp only [hc2, if_true] at hn
  exact ⟨o, trivial, he, hk, hn⟩
def allU : SRule := { eRule.zero with name := ⟨#[97, 108, 108]⟩, action := 3, out := 1 }
def dropsL : CL := ⟨[1], [], [], [], []⟩
def sendsL : CL := ⟨[1], [], [allU], [], []⟩
set_option maxRecDepth 8000 in
theorem drops_ok (w : World) : Calls Tryz.prog 16 #[] w (RetN w (fun _ : OV => True) (fun o => eConf.val ⟨o, nilSl, nilSl, nilSl, nilSl, 2⟩) (fun o => [OwnS o.v iE [1] 3])) := by
  refine en0 3 Tryz.func16 ?_
  refine sg (cons (alloc z28 (fun b1 => ?_)))
  refine nP (sg (cons (buildSlice (E := iE) Tryz.underlying22 ty3 z3 (.cons (.c (v := I 1) rfl) .nil) rfl rfl (fun v2 => ?_))))
  refine co (Ev.buildS (fs := _) (places := [(0, 1), (1, 1), (2, 1), (3, 1), (4, 1), (5, 1)]) z28 rfl Tryz.underlying28 (by kernel_rfl) (.cons (.t rfl) (.cons (.c (v := I 2) rfl) .nil)) (Fills.cons SConf.l_ports rfl (Fills.cons SConf.l_default rfl Fills.nil))) ?_
  refine cons (stv ty28 (Lens.id _) (.t rfl) (.t rfl) ?_)
  refine nP (ret (done rfl (.cell rfl (fun w I => run_loadVar_pts ty28 (ptsVar (by repeat first | exact mH | apply mT | apply mA) (Lens.id _) w I)) .nil) (fun w I => ?_)))
  exact retNP v2 trivial rfl (by repeat first | exact SubP.nil | refine SubP.cons (by repeat first | exact Rem.head | apply Rem.tail) ?_) w I
set_option maxRecDepth 8000 in
theorem sends_ok (w : World) : Calls Tryz.prog 17 #[] w (RetN w (fun _ : OV × OV => True) (fun o => eConf.val ⟨o.1, nilSl, o.2, nilSl, nilSl, 2⟩) (fun o => [OwnS o.1.v iE [1] 3, OwnS o.2.v eRule [allU] 113])) := by
  refine en0 5 Tryz.func17 ?_
  refine sg (cons (alloc z28 (fun b1 => ?_)))
  refine nP (sg (cons (buildSlice (E := iE) Tryz.underlying22 ty3 z3 (.cons (.c (v := I 1) rfl) .nil) rfl rfl (fun v2 => ?_))))
  refine co (Ev.buildS (fs := _) (places := [(0, 1), (1, 44), (45, 1), (46, 1), (47, 1), (48, 1)]) z113 rfl Tryz.underlying113 (by kernel_rfl) (.cons (.c (v := (Go.Value.string (ByteArray.mk #[97, 108, 108]))) rfl) (.cons (.c (v := I 3) rfl) (.cons (.c (v := I 1) rfl) .nil))) (Fills.cons SRule.l_name rfl (Fills.cons SRule.l_action rfl (Fills.cons SRule.l_out rfl Fills.nil)))) ?_
  refine cons (buildSlice (E := eRule) Tryz.underlying24 ty113 z113 (.cons (.t rfl) .nil) rfl rfl (fun v3 => ?_))
  refine co (Ev.buildS (fs := _) (places := [(0, 1), (1, 1), (2, 1), (3, 1), (4, 1), (5, 1)]) z28 rfl Tryz.underlying28 (by kernel_rfl) (.cons (.t rfl) (.cons (.t rfl) (.cons (.c (v := I 2) rfl) .nil))) (Fills.cons SConf.l_ports rfl (Fills.cons SConf.l_rules rfl (Fills.cons SConf.l_default rfl Fills.nil)))) ?_
  refine cons (stv ty28 (Lens.id _) (.t rfl) (.t rfl) ?_)
  refine nP (ret (done rfl (.cell rfl (fun w I => run_loadVar_pts ty28 (ptsVar (by repeat first | exact mH | apply mT | apply mA) (Lens.id _) w I)) .nil) (fun w I => ?_)))
  exact retNP (v2, v3) trivial rfl (by repeat first | exact SubP.nil | refine SubP.cons (by repeat first | exact Rem.head | apply Rem.tail) ?_) w I
theorem en38 : Gx.Enters Tryz.prog 38 := Gx.Enters.mk' (by kernel_rfl)
set_option maxRecDepth 8000 in
theorem one_ok (low : Bool) (w : World) : Calls Tryz.prog 18 #[.bool low] w (RetO w u8E (oneB low) 5) := by
  refine en0 30 Tryz.func18 ?_
  refine sg (co (Ev.assign (.c (v := (Go.Value.slice none 0 0)) rfl)) ?_)
  refine nP (seq (sg (co (Ev.assign (.c (v := I 0) rfl)) ?_)))
  refine nP (block (lp (X := Int) (fun x : Int => (0 ≤ x ∧ x ≤ oneN low)) (fun x : Int => [dz, (0, true, .bool low), (3, true, I x)]) (fun x : Int => []) (fun x : Int => ((oneN low : Int) - x).toNat) (0) ?_ (fun x hx => ?_)))
  · exact ⟨by omega, by omega⟩
  obtain ⟨i, rfl⟩ : ∃ y, y = x := ⟨x, rfl⟩
  have hi : 0 ≤ i ∧ i ≤ oneN low := hx
  clear hx
  show Sat _ _ [dz, (0, true, .bool low), (3, true, I i)] []
  refine seq (sg (mv rfl (co (Ev.lss_i (.t rfl) (.c (v := I 4096) rfl)) ?_)))
  refine nP (condT rfl (decide_eq_true (one_lt hi)) ?_)
  refine skip (pN (seq (block (seq ?_))))
  obtain ⟨pk, hpk⟩ : ∃ z, (partV (ofK (hdr9 (UInt16.ofNat i.toNat))) 100).1 = z := ⟨_, rfl⟩
  refine region (mv rfl (co (Ev.conv_i_u16 Tryz.underlying46 Tryz.underlying3 (.t rfl)) ?_))
  refine co (Ev.to (v' := eHeader.val (hdr9 (UInt16.ofNat i.toNat))) (Ev.buildS (fs := _) (places := [(0, 17), (17, 17), (34, 1), (35, 1), (36, 1), (37, 1), (38, 1), (39, 1), (40, 1), (41, 1), (42, 1)]) z93 rfl Tryz.underlying93 (by kernel_rfl) (.cons (.c (v := U8 17) rfl) (.cons (.t rfl) (.cons (.c (v := U16 9) rfl) (.cons (.c (v := U8 5) rfl) .nil)))) (Fills.cons SHeader.l_proto rfl (Fills.cons SHeader.l_srcPort rfl (Fills.cons SHeader.l_dstPort rfl (Fills.cons SHeader.l_tTL rfl Fills.nil))))) (congrArg (fun x => eHeader.val (hdr9 x)) (ofInt9 hi))) ?_
  refine cons (alloc z93 (fun b1 => ?_))
  refine cons (stv ty93 (Lens.id _) (.t rfl) (.t rfl) ?_)
  refine nP (sg (co (Ev.ldv ty93 (.t rfl) (Lens.id _)) ?_))
  refine cons (calln (X := OV) (fun _ => True) (fun o => .tuple #[o.v, I 0]) (fun o => [OwnS o.v u8E (makeB (hdr9 (UInt16.ofNat i.toNat)) []) 5]) en38 (.cons (.t rfl) .nil) (fun w I => make_to _ w rfl (chk9 _ (one_l1 hi))) (fun o4 _ => ?_))
  refine mv rfl (co (Ev.extract (.t rfl) rfl) (co (Ev.extract (.t rfl) rfl) (asn rfl (asn rfl (nP (sg (mv rfl (co (Ev.eql_i (.t rfl) (.c (v := I 0) rfl)) ?_))))))))
  refine mv rfl (cg rfl rfl (Ev.ldv ty93 (.t rfl) (Lens.id _)) ?_)
  refine cons (callg rfl rfl en30 (.cons (.g rfl id) .nil) (fun hg w I => Oc.of_ok _ w) ?_)
  refine cons (callg rfl rfl en11 (.cons (.g rfl id) .nil) (fun hg w I => part_to _ pk w hpk) ?_)
  refine cg rfl rfl (Ev.lss_u64 (.g rfl id) (.c (v := U64 50) rfl)) ?_
  refine cg rfl rfl (Ev.move (.t rfl)) ?_
  refine cg rfl rfl (Ev.eql_b Tryz.underlying4 (.g rfl id) (.g rfl id)) ?_
  refine co (Ev.pkA (.t rfl) rfl) ?_
  refine nP ?_
  first | refine condD rfl (fun h1 => ?_) (fun h1 => ?_) | refine cond rfl (fun h1 => ?_) (fun h1 => ?_)
  · have h1 : (decide (pk < 50) == low) = true := by simpa using h1
    rw [← hpk, one_tab low i.toNat (by omega)] at h1
    have h1 : i.toNat = oneN low := by simpa using h1
    refine sg (mv rfl (asn rfl (nP (ret (bR (pR (pR (bR (pR (done rfl (.tmp rfl .nil) (retOE (by repeat first | exact mH | apply mT | apply mA) ?_)))))))))))
    unfold oneB
    rw [h1]
  · have h1 : (decide (pk < 50) == low) = false := by simpa using h1
    rw [← hpk, one_tab low i.toNat (by omega)] at h1
    have h1 : ¬ i.toNat = oneN low := by simpa using h1
    refine skip (bN (pN (region (mv rfl (co (Ev.add_i (.t rfl) (.c (v := I 1) rfl) (fun _ => by have := one_lt hi; omega)) ?_)))))
    refine asn rfl (nP (nx (X := Int) (i + 1) ?_ ?_))
    · try dsimp only
      have : ¬ i.toNat = oneN low := h1; omega
    · try dsimp only
      have : ¬ i.toNat = oneN low := h1; omega
end Go.Proofs.YtakmoeladkajdaaGreat
namespace Go.Proofs.YtakmoeladkajdaaGreat
open Go Go.Gx Go.Proofs.YtakmoeladkajdaaGreat.Tri Go.Proofs.YtakmoeladkajdaaGreat.Oc
theorem new_good {c1 c2 : SConf} {l1 l2 : CL} {d1 d2 : Int} {u : Value} {ss : List SStage} {w : World} (hc1 : ConfAt w c1 l1) (hc2 : ConfAt w c2 l2) (hu : IsSl eStage w u ss) (hn1 : l1.Names) (hn2 : l2.Names) (hz1 : l1.n ≤ 4611686018427387904) (hz2 : l2.n ≤ 4611686018427387904) (hss : ss.length * 24 ≤ 140737488355328) (hd1 : c1.default = d1) (hd2 : c2.default = d2) (he : rollE l1 l2 d1 d2 ss = 0) :
    Calls Tryz.prog 8 #[eConf.val c1, eConf.val c2, u] w (RetN w (NewJ l1 l2 d1 d2 ss) (fun x => .tuple #[.pointer (some ⟨x.b, 0, none⟩), I 0]) (fun x => [Var x.b eRollRoll (x.rv 0) 58, x.r, OwnS x.sv.v eStage ss 37])) := by
  subst hd1
  subst hd2
  refine (new_ok c1 c2 l1 l2 u ss w hc1 hc2 hu hn1 hn2 hz1 hz2 hss).mono ?_
  rintro e w' ⟨x, hJ, hv, hk, hn⟩
  simp only [he, if_true] at hn
  rw [he] at hv
  exact ⟨x, hJ he, hv, hk, hn⟩
theorem new_err {c1 c2 : SConf} {l1 l2 : CL} {d1 d2 : Int} {u : Value} {ss : List SStage} {w : World} {e : Int} (hc1 : ConfAt w c1 l1) (hc2 : ConfAt w c2 l2) (hu : IsSl eStage w u ss) (hn1 : l1.Names) (hn2 : l2.Names) (hz1 : l1.n ≤ 4611686018427387904) (hz2 : l2.n ≤ 4611686018427387904) (hss : ss.length * 24 ≤ 140737488355328) (hd1 : c1.default = d1) (hd2 : c2.default = d2) (he : rollE l1 l2 d1 d2 ss = e) (hne : e ≠ 0) :
    Calls Tryz.prog 8 #[eConf.val c1, eConf.val c2, u] w (RetV w (.tuple #[.pointer none, I e])) := by
  subst hd1
  subst hd2
  refine (new_ok c1 c2 l1 l2 u ss w hc1 hc2 hu hn1 hn2 hz1 hz2 hss).mono ?_
  rintro e1 w' ⟨x, hJ, hv, hk, hn⟩
  rw [he] at hv
  simp only [rollO, if_neg hne] at hv
  exact ⟨hv, hk⟩
theorem pass_nil (x0 : RX) (l1 l2 : CL) (d1 d2 : Int) (ss : List SStage) (n : UInt64) (j : SJob) (bs : List UInt8) (V : SVerdict) (q : Bool) (m : UInt64) (e : Int) (w : World) (h : At (Var x0.b eRollRoll (x0.rv n) 58) w) (hN : ∀ w2, Keeps (Var x0.b eRollRoll (x0.rv n) 58).foot w w2 → RollAt w2 x0 l1 l2 d1 d2 ss) (hb : ∀ w2, Keeps (Var x0.b eRollRoll (x0.rv n) 58).foot w w2 → IsSl u8E w2 j.packet.v bs) (ho1 : PlanOK x0.p l1 d1) (ho2 : PlanOK x0.q l2 d2) (hs : (splitS n).stage.toNat < ss.length) (hl : ss.length ≤ 256)
    (hV : passV l1 l2 d1 d2 j.in_ ss n bs = V) (hq : passB ss n bs = q) (hm : passW l2 d2 j.in_ ss n bs = m) (he : pE bs = e) :
    Calls Tryz.prog 13 #[.pointer (some ⟨x0.b, 0, none⟩), nilIf.v, eJob.val j] w (Gx.RetR w (Var x0.b eRollRoll (x0.rv n) 58) (fun _ : Unit => True) (fun _ => .tuple #[eVerdict.val V, .bool q, I e]) (fun _ => Var x0.b eRollRoll (x0.rv m) 58)) := by
  subst hV
  subst hq
  subst hm
  subst he
  have hk2 : ∀ w2, Keeps (RG x0 n (fun _ : Unit => Emp) ()).foot w w2 → Keeps (Var x0.b eRollRoll (x0.rv n) 58).foot w w2 := fun w2 k => k.mono (fun b hb => hb.elim id (fun h => h.elim))
  refine (pass_ok (fun _ : Unit => Emp) (fun _ _ _ => True) (fun _ => True) nilIf.v gate_nil () trivial (fun _ _ => trivial) x0 l1 l2 d1 d2 ss n j bs w ⟨⟨h.1, trivial, fun b _ hb => hb.elim⟩, fun b hb => hb.elim (h.2 b) (fun h => h.elim)⟩ (fun w2 k => hN w2 (hk2 w2 k)) (fun w2 k => hb w2 (hk2 w2 k)) ho1 ho2 hs hl).mono ?_
  rintro e w' ⟨u, hJ, hv, hk, ha, hf⟩
  exact ⟨(), trivial, hv, hk2 w' hk, ha.1, fun b hb => ⟨(hf b (.inl hb)).1.elim (fun h => h.elim .inl (fun h => h.elim)) .inr, (hf b (.inl hb)).2⟩⟩
theorem roll_keep {K : Ctx} {L L' : List Res} {r : Res} {x : RX} {l1 l2 : CL} {d1 d2 : Int} {ss : List SStage} {w : World} (I : WInv K L w) (hr : Rem L r L') (h1 : x.r ∈ L') (h2 : OwnS x.sv.v eStage ss 37 ∈ L') (hx : NewJ l1 l2 d1 d2 ss x) : ∀ w2, Keeps r.foot w w2 → RollAt w2 x l1 l2 d1 d2 ss := fun w2 k =>
  have I2 := I.but hr k
  ⟨(hx.r w2 (I2.own _ h1).1).1, (hx.r w2 (I2.own _ h1).1).2, IsSl.of_own (I2.own _ h2).1⟩
theorem own_keep {α : Type} {K : Ctx} {L L' : List Res} {r : Res} {v : Value} {E : Enc α} {xs : List α} {t : TypeId} {w : World} (I : WInv K L w) (hr : Rem L r L') (h : OwnS v E xs t ∈ L') : ∀ w2, Keeps r.foot w w2 → IsSl E w2 v xs := fun w2 k => IsSl.of_own ((I.but hr k).own _ h).1
theorem stage_to (x : RX) (m : UInt64) (a : Int) (b c : UInt64) (w : World) (hb : PtsTo eRollRoll w x.b 0 (x.rv m)) (h : ((splitS m).stage.toNat : Int) = a ∧ (splitS m).seen = b ∧ (splitS m).dropped = c) : Calls Tryz.prog 14 #[.pointer (some ⟨x.b, 0, none⟩), nilIf.v] w (RetV w (.tuple #[I a, U64 b, U64 c, I 0])) := by
  obtain ⟨h1, rfl, rfl⟩ := h
  rw [← h1]
  exact stage_ok x.b x.q.b (x.rv m) w hb rfl
theorem over_to (x : RX) (m : UInt64) (a b : Bool) (w : World) (hb : PtsTo eRollRoll w x.b 0 (x.rv m)) (h : decide (¬ (splitS m).end_ = 0) = a ∧ decide ((splitS m).end_ = 1) = b) : Calls Tryz.prog 15 #[.pointer (some ⟨x.b, 0, none⟩), nilIf.v] w (RetV w (.tuple #[.bool a, .bool b, I 0])) := by
  obtain ⟨rfl, rfl⟩ := h
  exact over_ok x.b x.q.b (x.rv m) w hb rfl
theorem co_drops {K : Ctx} {L : List Res} {o : OV} (w : World) (I : WInv K L w) (h : OwnS o.v iE [1] 3 ∈ L) : ConfAt w ⟨o, nilSl, nilSl, nilSl, nilSl, 2⟩ dropsL := ⟨isSl_own h w I, IsSl.nil _ w, IsSl.nil _ w, IsSl.nil _ w, IsSl.nil _ w⟩
theorem co_sends {K : Ctx} {L : List Res} {o1 o2 : OV} (w : World) (I : WInv K L w) (h : OwnS o1.v iE [1] 3 ∈ L) (h2 : OwnS o2.v eRule [allU] 113 ∈ L) : ConfAt w ⟨o1, nilSl, o2, nilSl, nilSl, 2⟩ sendsL := ⟨isSl_own h w I, IsSl.nil _ w, isSl_own h2 w I, IsSl.nil _ w, IsSl.nil _ w⟩
theorem names31 {l : CL} (h : l.us.all (fun x => decide (x.name.size ≤ 16)) && l.ms.all (fun x => decide (x.name.size ≤ 16)) && l.xs.all (fun x => decide (x.name.size ≤ 16)) = true) : l.Names := by
  simp only [Bool.and_eq_true, List.all_eq_true, decide_eq_true_iff] at h
  exact ⟨fun x hx => by have := h.1.1 x hx; omega, fun x hx => by have := h.1.2 x hx; omega, fun x hx => by have := h.2 x hx; omega⟩
theorem dropsN : dropsL.Names := names31 (by decide +kernel)
theorem sendsN : sendsL.Names := names31 (by decide +kernel)
theorem dropsZ : dropsL.n ≤ 4611686018427387904 := by decide +kernel
theorem sendsZ : sendsL.n ≤ 4611686018427387904 := by decide +kernel
def ss1 : List SStage := [⟨50, 2, 0⟩, ⟨100, 1, 0⟩]
def ss2 : List SStage := [⟨50, 2, 0⟩]
theorem e1 : rollE dropsL sendsL 2 2 ss1 = 0 := by decide +kernel
theorem e2 : rollE sendsL dropsL 2 2 ss2 = 0 := by decide +kernel
theorem pV1 : passV dropsL sendsL 2 2 1 ss1 0 (oneB false) = ⟨2, -1, -1, -1, -1⟩ := by decide +kernel
theorem pV2 : passV dropsL sendsL 2 2 1 ss1 0 (oneB true) = ⟨3, 1, 0, -1, -1⟩ := by decide +kernel
theorem pV3 : passV sendsL dropsL 2 2 1 ss2 0 (oneB true) = ⟨2, -1, -1, -1, -1⟩ := by decide +kernel
theorem pB1 : passB ss1 0 (oneB false) = false := by decide +kernel
theorem pB2 : passB ss1 0 (oneB true) = true := by decide +kernel
theorem pB3 : passB ss2 0 (oneB true) = true := by decide +kernel
theorem pW1 : passW sendsL 2 1 ss1 0 (oneB false) = 0 := by decide +kernel
theorem pW2 : passW sendsL 2 1 ss1 0 (oneB true) = 2097152 := by decide +kernel
theorem pW3 : passW dropsL 2 1 ss2 0 (oneB true) = 2251799815782401 := by decide +kernel
theorem pE1 (b : Bool) : pE (oneB b) = 0 := by cases b <;> decide +kernel
end Go.Proofs.YtakmoeladkajdaaGreat
namespace Go.Proofs.YtakmoeladkajdaaGreat
open Go Go.Gx Go.Proofs.YtakmoeladkajdaaGreat.Tri Go.Proofs.YtakmoeladkajdaaGreat.Oc
theorem en18 : Gx.Enters Tryz.prog 18 := Gx.Enters.mk' (by kernel_rfl)
theorem en16 : Gx.Enters Tryz.prog 16 := Gx.Enters.mk' (by kernel_rfl)
theorem en17 : Gx.Enters Tryz.prog 17 := Gx.Enters.mk' (by kernel_rfl)
theorem en8 : Gx.Enters Tryz.prog 8 := Gx.Enters.mk' (by kernel_rfl)
theorem z65 : (Tryz.prog.info? 65).bind (·.zero) = some (eJob.val eJob.zero) := by kernel_rfl
theorem en13 : Gx.Enters Tryz.prog 13 := Gx.Enters.mk' (by kernel_rfl)
theorem en14 : Gx.Enters Tryz.prog 14 := Gx.Enters.mk' (by kernel_rfl)
theorem en15 : Gx.Enters Tryz.prog 15 := Gx.Enters.mk' (by kernel_rfl)
set_option maxRecDepth 8000 in
theorem works_ok (w : World) : Calls Tryz.prog 10 #[] w (RetV w (.bool true)) := by
  refine en0 144 Tryz.func10 ?_
  refine sg (co (Ev.assign (.c (v := .bool false) rfl)) ?_)
  refine nP (sg (cons (callo en18 (.cons (.c (v := .bool true) rfl) .nil) (fun w I => one_ok true w) (fun v1 => ?_))))
  refine cons (callo en18 (.cons (.c (v := .bool false) rfl) .nil) (fun w I => one_ok false w) (fun v2 => ?_))
  refine asn rfl (asn rfl (nP (sg (cons (calln (X := OV) (fun _ => True) (fun o => eConf.val ⟨o, nilSl, nilSl, nilSl, nilSl, 2⟩) (fun o => [OwnS o.v iE [1] 3]) en16 .nil (fun w I => drops_ok w) (fun dd _ => ?_))))))
  refine cons (calln (X := OV × OV) (fun _ => True) (fun o => eConf.val ⟨o.1, nilSl, o.2, nilSl, nilSl, 2⟩) (fun o => [OwnS o.1.v iE [1] 3, OwnS o.2.v eRule [allU] 113]) en17 .nil (fun w I => sends_ok w) (fun sd _ => ?_))
  refine co (Ev.buildS (fs := _) (places := [(0, 1), (1, 1), (2, 1)]) z37 rfl Tryz.underlying37 (by kernel_rfl) (.cons (.c (v := I 50) rfl) (.cons (.c (v := U64 2) rfl) .nil)) (Fills.cons SStage.l_parts rfl (Fills.cons SStage.l_wait rfl Fills.nil))) ?_
  refine co (Ev.buildS (fs := _) (places := [(0, 1), (1, 1), (2, 1)]) z37 rfl Tryz.underlying37 (by kernel_rfl) (.cons (.c (v := I 100) rfl) (.cons (.c (v := U64 1) rfl) .nil)) (Fills.cons SStage.l_parts rfl (Fills.cons SStage.l_wait rfl Fills.nil))) ?_
  refine cons (buildSlice (E := eStage) Tryz.underlying29 ty37 z37 (.cons (.t rfl) (.cons (.t rfl) .nil)) rfl rfl (fun v3 => ?_))
  refine cons (calln (X := RX) (NewJ dropsL sendsL 2 2 ss1) (fun x => .tuple #[.pointer (some ⟨x.b, 0, none⟩), I 0]) (fun x => [Var x.b eRollRoll (x.rv 0) 58, x.r, OwnS x.sv.v eStage ss1 37]) en8 (.cons (.t rfl) (.cons (.t rfl) (.cons (.t rfl) .nil))) (fun w I => new_good (co_drops w I (by repeat first | exact mH | apply mT | apply mA)) (co_sends w I (by repeat first | exact mH | apply mT | apply mA) (by repeat first | exact mH | apply mT | apply mA)) (isSl_own (xs := ss1) (by repeat first | exact mH | apply mT | apply mA) w I) dropsN sendsN dropsZ sendsZ (by decide) rfl rfl e1) (fun x1 hx1 => ?_))
  refine mv rfl (co (Ev.extract (.t rfl) rfl) (co (Ev.extract (.t rfl) rfl) (asn rfl (asn rfl (nP (seq (sg (mv rfl (co (Ev.neq_i (.t rfl) (.c (v := I 0) rfl)) ?_)))))))))
  refine nP (condF rfl (rfl) ?_)
  refine skip (pN (sg (mv rfl (mv rfl (co (Ev.buildS (fs := _) (places := [(0, 1), (1, 1), (2, 1)]) z65 rfl Tryz.underlying65 (by kernel_rfl) (.cons (.c (v := I 1) rfl) (.cons (.t rfl) .nil)) (Fills.cons SJob.l_in_ rfl (Fills.cons SJob.l_packet rfl Fills.nil))) ?_)))))
  refine cons (callr (X := Unit) (fun _ => True) (fun _ => .tuple #[eVerdict.val (⟨2, -1, -1, -1, -1⟩ : SVerdict), .bool false, I 0]) (r := Var x1.b eRollRoll (x1.rv 0) 58) (r' := fun _ => Var x1.b eRollRoll (x1.rv 0) 58) (fun _ => by repeat first | exact Upd.head | apply Upd.tail | apply Upd.right) (by repeat first | exact mH | apply mT | apply mA) en13 (.cons (.t rfl) (.cons (.c (v := Go.Value.nilIface) rfl) (.cons (.t rfl) .nil))) (fun w I => pass_nil x1 dropsL sendsL 2 2 ss1 0 _ (oneB false) _ _ _ _ w (am w I) (roll_keep I (by repeat first | exact Rem.head | apply Rem.tail) (by repeat first | exact mH | apply mT | apply mA) (by repeat first | exact mH | apply mT | apply mA) hx1) (own_keep (v := v2.v) I (by repeat first | exact Rem.head | apply Rem.tail) (by repeat first | exact mH | apply mT | apply mA)) hx1.p hx1.q (by decide) (by decide) pV1 pB1 pW1 (pE1 _)) (fun _ _ => ?_))
  refine mv rfl (co (Ev.extract (.t rfl) rfl) (co (Ev.extract (.t rfl) rfl) (co (Ev.extract (.t rfl) rfl) (cons (alloc z60 (fun b4 => ?_))))))
  refine cons (stv ty60 (Lens.id _) (.t rfl) (.t rfl) ?_)
  refine asn rfl (asn rfl (nP (sg (mv rfl (mv rfl (co (Ev.buildS (fs := _) (places := [(0, 1), (1, 1), (2, 1)]) z65 rfl Tryz.underlying65 (by kernel_rfl) (.cons (.c (v := I 1) rfl) (.cons (.t rfl) .nil)) (Fills.cons SJob.l_in_ rfl (Fills.cons SJob.l_packet rfl Fills.nil))) ?_))))))
  refine cons (callr (X := Unit) (fun _ => True) (fun _ => .tuple #[eVerdict.val (⟨3, 1, 0, -1, -1⟩ : SVerdict), .bool true, I 0]) (r := Var x1.b eRollRoll (x1.rv 0) 58) (r' := fun _ => Var x1.b eRollRoll (x1.rv 2097152) 58) (fun _ => by repeat first | exact Upd.head | apply Upd.tail | apply Upd.right) (by repeat first | exact mH | apply mT | apply mA) en13 (.cons (.t rfl) (.cons (.c (v := Go.Value.nilIface) rfl) (.cons (.t rfl) .nil))) (fun w I => pass_nil x1 dropsL sendsL 2 2 ss1 0 _ (oneB true) _ _ _ _ w (am w I) (roll_keep I (by repeat first | exact Rem.head | apply Rem.tail) (by repeat first | exact mH | apply mT | apply mA) (by repeat first | exact mH | apply mT | apply mA) hx1) (own_keep (v := v1.v) I (by repeat first | exact Rem.head | apply Rem.tail) (by repeat first | exact mH | apply mT | apply mA)) hx1.p hx1.q (by decide) (by decide) pV2 pB2 pW2 (pE1 _)) (fun _ _ => ?_))
  refine mv rfl (co (Ev.extract (.t rfl) rfl) (co (Ev.extract (.t rfl) rfl) (co (Ev.extract (.t rfl) rfl) (cons (alloc z60 (fun b5 => ?_))))))
  refine cons (stv ty60 (Lens.id _) (.t rfl) (.t rfl) ?_)
  refine asn rfl (asn rfl (nP (sg (mv rfl (cons (callv en14 (.cons (.t rfl) (.cons (.c (v := Go.Value.nilIface) rfl) .nil)) (fun w I => stage_to x1 2097152 0 1 0 w (ptsVar (by repeat first | exact mH | apply mT | apply mA) (Lens.id _) w I) (by decide +kernel)) ?_))))))
  refine mv rfl (co (Ev.extract (.t rfl) rfl) (co (Ev.extract (.t rfl) rfl) (co (Ev.extract (.t rfl) rfl) (co (Ev.extract (.t rfl) rfl) (asn rfl (asn rfl (asn rfl (asn rfl (nP (sg (cons (calln (X := OV × OV) (fun _ => True) (fun o => eConf.val ⟨o.1, nilSl, o.2, nilSl, nilSl, 2⟩) (fun o => [OwnS o.1.v iE [1] 3, OwnS o.2.v eRule [allU] 113]) en17 .nil (fun w I => sends_ok w) (fun sd _ => ?_)))))))))))))
  refine cons (calln (X := OV) (fun _ => True) (fun o => eConf.val ⟨o, nilSl, nilSl, nilSl, nilSl, 2⟩) (fun o => [OwnS o.v iE [1] 3]) en16 .nil (fun w I => drops_ok w) (fun dd _ => ?_))
  refine co (Ev.buildS (fs := _) (places := [(0, 1), (1, 1), (2, 1)]) z37 rfl Tryz.underlying37 (by kernel_rfl) (.cons (.c (v := I 50) rfl) (.cons (.c (v := U64 2) rfl) .nil)) (Fills.cons SStage.l_parts rfl (Fills.cons SStage.l_wait rfl Fills.nil))) ?_
  refine cons (buildSlice (E := eStage) Tryz.underlying29 ty37 z37 (.cons (.t rfl) .nil) rfl rfl (fun v6 => ?_))
  refine cons (calln (X := RX) (NewJ sendsL dropsL 2 2 ss2) (fun x => .tuple #[.pointer (some ⟨x.b, 0, none⟩), I 0]) (fun x => [Var x.b eRollRoll (x.rv 0) 58, x.r, OwnS x.sv.v eStage ss2 37]) en8 (.cons (.t rfl) (.cons (.t rfl) (.cons (.t rfl) .nil))) (fun w I => new_good (co_sends w I (by repeat first | exact mH | apply mT | apply mA) (by repeat first | exact mH | apply mT | apply mA)) (co_drops w I (by repeat first | exact mH | apply mT | apply mA)) (isSl_own (xs := ss2) (by repeat first | exact mH | apply mT | apply mA) w I) sendsN dropsN sendsZ dropsZ (by decide) rfl rfl e2) (fun x2 hx2 => ?_))
  refine mv rfl (co (Ev.extract (.t rfl) rfl) (co (Ev.extract (.t rfl) rfl) (asn rfl (asn rfl (nP (seq (sg (mv rfl (co (Ev.neq_i (.t rfl) (.c (v := I 0) rfl)) ?_)))))))))
  refine nP (condF rfl (rfl) ?_)
  refine skip (pN (sg (mv rfl (mv rfl (co (Ev.buildS (fs := _) (places := [(0, 1), (1, 1), (2, 1)]) z65 rfl Tryz.underlying65 (by kernel_rfl) (.cons (.c (v := I 1) rfl) (.cons (.t rfl) .nil)) (Fills.cons SJob.l_in_ rfl (Fills.cons SJob.l_packet rfl Fills.nil))) ?_)))))
  refine cons (callr (X := Unit) (fun _ => True) (fun _ => .tuple #[eVerdict.val (⟨2, -1, -1, -1, -1⟩ : SVerdict), .bool true, I 0]) (r := Var x2.b eRollRoll (x2.rv 0) 58) (r' := fun _ => Var x2.b eRollRoll (x2.rv 2251799815782401) 58) (fun _ => by repeat first | exact Upd.head | apply Upd.tail | apply Upd.right) (by repeat first | exact mH | apply mT | apply mA) en13 (.cons (.t rfl) (.cons (.c (v := Go.Value.nilIface) rfl) (.cons (.t rfl) .nil))) (fun w I => pass_nil x2 sendsL dropsL 2 2 ss2 0 _ (oneB true) _ _ _ _ w (am w I) (roll_keep I (by repeat first | exact Rem.head | apply Rem.tail) (by repeat first | exact mH | apply mT | apply mA) (by repeat first | exact mH | apply mT | apply mA) hx2) (own_keep (v := v1.v) I (by repeat first | exact Rem.head | apply Rem.tail) (by repeat first | exact mH | apply mT | apply mA)) hx2.p hx2.q (by decide) (by decide) pV3 pB3 pW3 (pE1 _)) (fun _ _ => ?_))
  refine mv rfl (co (Ev.extract (.t rfl) rfl) (co (Ev.extract (.t rfl) rfl) (co (Ev.extract (.t rfl) rfl) (cons (alloc z60 (fun b7 => ?_))))))
  refine cons (stv ty60 (Lens.id _) (.t rfl) (.t rfl) ?_)
  refine asn rfl (asn rfl (nP (sg (mv rfl (cons (callv en15 (.cons (.t rfl) (.cons (.c (v := Go.Value.nilIface) rfl) .nil)) (fun w I => over_to x2 2251799815782401 true false w (ptsVar (by repeat first | exact mH | apply mT | apply mA) (Lens.id _) w I) (by decide +kernel)) ?_))))))
  refine mv rfl (co (Ev.extract (.t rfl) rfl) (co (Ev.extract (.t rfl) rfl) (co (Ev.extract (.t rfl) rfl) (asn rfl (asn rfl (asn rfl (nP (sg (mv rfl (co (Ev.not (.t rfl)) ?_))))))))))
  refine mv rfl (cg rfl rfl (fA 0 (.t rfl)) ?_)
  refine cg rfl rfl (Ev.ldv ty3 (.g rfl id) SVerdict.l_action) ?_
  refine cg rfl rfl (Ev.eql_i (.g rfl id) (.c (v := I 2) rfl)) ?_
  refine co (Ev.pkA (.t rfl) rfl) ?_
  refine mv rfl (cg rfl rfl (Ev.move (.t rfl)) ?_)
  refine cg rfl rfl (Ev.eql_i (.g rfl id) (.c (v := I 0) rfl)) ?_
  refine co (Ev.pkA (.t rfl) rfl) ?_
  refine mv rfl (cg rfl rfl (Ev.move (.t rfl)) ?_)
  refine co (Ev.pkA (.t rfl) rfl) ?_
  refine mv rfl (cg rfl rfl (fA 0 (.t rfl)) ?_)
  refine cg rfl rfl (Ev.ldv ty3 (.g rfl id) SVerdict.l_action) ?_
  refine cg rfl rfl (Ev.eql_i (.g rfl id) (.c (v := I 3) rfl)) ?_
  refine co (Ev.pkA (.t rfl) rfl) ?_
  refine mv rfl (cg rfl rfl (Ev.move (.t rfl)) ?_)
  refine cg rfl rfl (Ev.eql_i (.g rfl id) (.c (v := I 0) rfl)) ?_
  refine co (Ev.pkA (.t rfl) rfl) ?_
  refine mv rfl (cg rfl rfl (Ev.move (.t rfl)) ?_)
  refine cg rfl rfl (Ev.eql_i (.g rfl id) (.c (v := I 0) rfl)) ?_
  refine co (Ev.pkA (.t rfl) rfl) ?_
  refine mv rfl (cg rfl rfl (Ev.move (.t rfl)) ?_)
  refine cg rfl rfl (Ev.eql_u64 (.g rfl id) (.c (v := U64 1) rfl)) ?_
  refine co (Ev.pkA (.t rfl) rfl) ?_
  refine mv rfl (cg rfl rfl (Ev.move (.t rfl)) ?_)
  refine cg rfl rfl (Ev.eql_u64 (.g rfl id) (.c (v := U64 0) rfl)) ?_
  refine co (Ev.pkA (.t rfl) rfl) ?_
  refine mv rfl (cg rfl rfl (Ev.move (.t rfl)) ?_)
  refine cg rfl rfl (Ev.eql_i (.g rfl id) (.c (v := I 0) rfl)) ?_
  refine co (Ev.pkA (.t rfl) rfl) ?_
  refine mv rfl (cg rfl rfl (Ev.move (.t rfl)) ?_)
  refine co (Ev.pkA (.t rfl) rfl) ?_
  refine mv rfl (cg rfl rfl (fA 0 (.t rfl)) ?_)
  refine cg rfl rfl (Ev.ldv ty3 (.g rfl id) SVerdict.l_action) ?_
  refine cg rfl rfl (Ev.eql_i (.g rfl id) (.c (v := I 2) rfl)) ?_
  refine co (Ev.pkA (.t rfl) rfl) ?_
  refine mv rfl (cg rfl rfl (Ev.move (.t rfl)) ?_)
  refine cg rfl rfl (Ev.eql_i (.g rfl id) (.c (v := I 0) rfl)) ?_
  refine co (Ev.pkA (.t rfl) rfl) ?_
  refine mv rfl (cg rfl rfl (Ev.move (.t rfl)) ?_)
  refine co (Ev.pkA (.t rfl) rfl) ?_
  refine mv rfl (cg rfl rfl (Ev.move (.t rfl)) ?_)
  refine cg rfl rfl (Ev.not (.g rfl id)) ?_
  refine co (Ev.pkA (.t rfl) rfl) ?_
  refine mv rfl (cg rfl rfl (Ev.move (.t rfl)) ?_)
  refine cg rfl rfl (Ev.eql_i (.g rfl id) (.c (v := I 0) rfl)) ?_
  refine co (Ev.pkA (.t rfl) rfl) ?_
  refine asn rfl (nP (ret (done rfl (.tmp rfl .nil) (retE ?_))))
  rfl
end Go.Proofs.YtakmoeladkajdaaGreat
namespace Go.Proofs.YtakmoeladkajdaaGreat
open Go Go.Gx Go.Proofs.YtakmoeladkajdaaGreat.Tri Go.Proofs.YtakmoeladkajdaaGreat.Oc
theorem en10 : Gx.Enters Tryz.prog 10 := Gx.Enters.mk' (by kernel_rfl)
def incN {α : Type} (q : α → α → Bool) (d : Int) (l : List α) (m : List (α × Int)) : Nat → List (α × Int)
  | 0 => m
  | n + 1 => match l[n]? with
    | none => incN q d l m n
    | some x => putL q x ((findV q x (incN q d l m n)).getD 0 + d) (incN q d l m n)
def alikeM {α : Type} (q : α → α → Bool) (l k : List α) : List (α × Int) := incN q (-1) k (incN q 1 l [] l.length) k.length
def alikeB {α : Type} (q : α → α → Bool) (l k : List α) : Bool := (alikeM q l k).all (fun p => decide (p.2 = 0))
def sameB (a b : CL) (d e : Int) : Bool := decide (d = e) && (decide (a.ps = b.ps) && (decide (a.us = b.us) && (alikeB SRoute.eqb a.rs b.rs && (alikeB SMeterConf.eqb a.ms b.ms && alikeB SMirrorConf.eqb a.xs b.xs))))
def nameU (c : UInt8) (i : Int) : Bool := (decide (97 ≤ c) && decide (c ≤ 122)) || (!decide (i = 0) && (((decide (48 ≤ c) && decide (c ≤ 57)) || decide (c = 45)) || decide (c = 95)))
def rooms : List Int := [2, 4, 8, 16, 32, 64, 128, 256, 512, 1024]
def szK (l : CL) (k : Nat) : Nat := [l.ps.length, l.rs.length, l.us.length, l.ms.length, l.xs.length].getD k 0
def limK (k : Nat) : Nat := [256, 1024, 256, 64, 16].getD k 0
def thingE (l : CL) (k i : Nat) : Int := if k = 0 then portE l.ps (l.ps.getD i iE.zero) i else if k = 1 then routeE l (l.rs.getD i eRoute.zero) i else if k = 2 then ruleE l (l.us.getD i eRule.zero) i else if k = 3 then meterE l (l.ms.getD i eMeterConf.zero) i else mirrorE l (l.xs.getD i eMirrorConf.zero) i
def baseK (l : CL) : Nat → Int
  | 0 => 0
  | k + 1 => baseK l k + (szK l k : Int)
def kindsF (l : CL) : Nat → List SFault
  | 0 => []
  | k + 1 => kindsF l k ++ listG (thingE l k) (baseK l k) (szK l k) (limK k)
structure CL.Fits (l : CL) : Prop where
  ps : l.ps.length * 8 ≤ 140737488351232
  rs : l.rs.length * 40 ≤ 140737488351232
  us : l.us.length * 152 ≤ 140737488351232
  ms : l.ms.length * 40 ≤ 140737488351232
  xs : l.xs.length * 32 ≤ 140737488351232
end Go.Proofs.YtakmoeladkajdaaGreat
namespace Go.Proofs.YtakmoeladkajdaaGreat
open Go Go.Gx Go.Proofs.YtakmoeladkajdaaGreat.Tri Go.Proofs.YtakmoeladkajdaaGreat.Oc
structure SLaw31Plan where
  old : SConf
  new : SConf
  stages : OV
def SLaw31Plan.to : (SConf × (SConf × OV)) → SLaw31Plan := fun x => ⟨x.1, x.2.1, x.2.2⟩
def SLaw31Plan.of : SLaw31Plan → (SConf × (SConf × OV)) := fun x => (x.old, x.new, x.stages)
def eLaw31Plan : Enc SLaw31Plan := isoE (prodE eConf (prodE eConf (ovE nilSl))) SLaw31Plan.to SLaw31Plan.of
def SLaw31Plan.l_old : Lens eLaw31Plan eConf 0 := lIso _ SLaw31Plan.to SLaw31Plan.of (fun _ => rfl) (lFst eConf (prodE eConf (ovE nilSl)))
@[simp] theorem SLaw31Plan.get_old (x : SLaw31Plan) : SLaw31Plan.l_old.get x = x.old := rfl
@[simp] theorem SLaw31Plan.set_old (x : SLaw31Plan) (y : SConf) : SLaw31Plan.l_old.set x y = { x with old := y } := rfl
def SLaw31Plan.l_new : Lens eLaw31Plan eConf 6 := lIso _ SLaw31Plan.to SLaw31Plan.of (fun _ => rfl) (Lens.comp (lSnd eConf (prodE eConf (ovE nilSl))) (lFst eConf (ovE nilSl)))
@[simp] theorem SLaw31Plan.get_new (x : SLaw31Plan) : SLaw31Plan.l_new.get x = x.new := rfl
@[simp] theorem SLaw31Plan.set_new (x : SLaw31Plan) (y : SConf) : SLaw31Plan.l_new.set x y = { x with new := y } := rfl
def SLaw31Plan.l_stages : Lens eLaw31Plan (ovE nilSl) 12 := lIso _ SLaw31Plan.to SLaw31Plan.of (fun _ => rfl) (Lens.comp (lSnd eConf (prodE eConf (ovE nilSl))) (Lens.comp (lSnd eConf (ovE nilSl)) (Lens.id (ovE nilSl))))
@[simp] theorem SLaw31Plan.get_stages (x : SLaw31Plan) : SLaw31Plan.l_stages.get x = x.stages := rfl
@[simp] theorem SLaw31Plan.set_stages (x : SLaw31Plan) (y : OV) : SLaw31Plan.l_stages.set x y = { x with stages := y } := rfl
end Go.Proofs.YtakmoeladkajdaaGreat
namespace Go.Proofs.YtakmoeladkajdaaGreat
open Go Go.Gx Go.Proofs.YtakmoeladkajdaaGreat.Tri Go.Proofs.YtakmoeladkajdaaGreat.Oc
end Go.Proofs.YtakmoeladkajdaaGreat
namespace Go.Proofs.YtakmoeladkajdaaGreat
open Go Go.Gx Go.Proofs.YtakmoeladkajdaaGreat.Tri Go.Proofs.YtakmoeladkajdaaGreat.Oc
theorem MethAt.ptr {P : Program} {T e : TypeId} {u : Value} {name : String} {f : FuncId} (hi : ((P.info? T).bind fun i => (i.methods.find? (·.name == name)).map fun m => (m.path, m.func)) = some (#[], some (f, true)))
    (ht : P.underlying T = some (.pointer e)) (hs : P.types.size ≠ 0) : MethAt P T u name f u := fun w => by
  obtain ⟨k, hk⟩ : ∃ k, P.types.size + Made.depth = k + 1 := ⟨P.types.size + Made.depth - 1, by omega⟩
  rw [hk]
  cases hin : P.info? T with
  | none => rw [hin] at hi; cases hi
  | some i =>
    rw [hin] at hi
    simp only [Option.bind_some] at hi
    cases hm : i.methods.find? (·.name == name) with
    | none => rw [hm] at hi; cases hi
    | some m =>
      rw [hm] at hi
      simp only [Option.map_some, Option.some.injEq, Prod.mk.injEq] at hi
      obtain ⟨h1, h2⟩ := hi
      have hu : (underlying T).run P w = .ok (.pointer e) w := by simp [underlying, ht]
      simp [method, typeInfo, hin, hm, h1, h2, follow, receiverAt, hu, Place.get]
theorem callIfR {P : Program} {K : Ctx} {F : Fr} {L : List Res} {Q : Exit → Act → World → Prop} {N : Act → World → Prop} {ops : Array Oper} {ty : TypeId} {pos : String} {af : Array Edge} {d : Nat} {x : Operand}
    {X : Type} {T : TypeId} {u q : Value} {name : String} {f : FuncId} {args : List Operand} {ats : Array TypeId} {vs : List Value} {r : Res} {r' : X → Res} {L' : X → List Res} (J : X → Prop) (val : X → Value) (hu : ∀ x, Upd L r (r' x) (L' x))
    (hx : Opd F true x (ifc T u).v) (hm : MethAt P T u name f q) (hen : Enters P f) (hargs : Opds F true args vs)
    (hC : ∀ w, WInv K L w → Calls P f (q :: vs).toArray w (Gx.RetR w r J val r')) (next : ∀ x, J x → Sat K N ((d, true, val x) :: F) (L' x)) (hd : Nat.blt d K.n = true := by rfl) :
    Sat K (opThen P ops Q ⟨some d, .call { callee := .invoke x name, args := args.toArray, argTypes := ats }, ty, pos, af, none⟩ N) F L := fun a w G => by
  refine opThen_plain rfl ?_
  unfold Oper.wp
  rw [exec_calli hx hm hen hargs rfl G.fo]
  refine (hC w G.inv).mono ?_
  rintro e w' ⟨x, hJ, rfl, hk, ha, hf⟩
  exact next x hJ _ _ (G.put d true (val x) (val x) (by simpa [Nat.blt_eq] using hd) rfl (G.inv.upd (hu x) hk ha hf))
theorem neq_if {P : Program} {K : Ctx} {F : Fr} {L : List Res} {g : Bool} {x : Operand} {t t' ty T : TypeId} {u : Value} {ms : _} (ht : P.underlying t = some (.interface ms)) (hx : Opd F g x (ifc T u).v) : Ev P K F L g (.binOp .neq t x (.const .nilIface) t') ty (.bool true) :=
  Ev.bin hx (.c (v := .nilIface) rfl) (fun w => by unfold eqGuard ifc; simp) (fun w => by
    have e : Op.maxDepth = (Op.maxDepth - 1) + 1 := by decide
    simp only [binOp, Op.equal, ifc]
    rw [e]
    simp [Op.equalIn, run_underlying ht, Result.andThen])
structure STurnNotes where
  made : Bool
  marks : OV
def STurnNotes.to : (Bool × OV) → STurnNotes := fun x => ⟨x.1, x.2⟩
def STurnNotes.of : STurnNotes → (Bool × OV) := fun x => (x.made, x.marks)
def eTurnNotes : Enc STurnNotes := isoE (prodE bE (ovE nilSl)) STurnNotes.to STurnNotes.of
def STurnNotes.l_made : Lens eTurnNotes bE 0 := lIso _ STurnNotes.to STurnNotes.of (fun _ => rfl) (lFst bE (ovE nilSl))
@[simp] theorem STurnNotes.get_made (x : STurnNotes) : STurnNotes.l_made.get x = x.made := rfl
@[simp] theorem STurnNotes.set_made (x : STurnNotes) (y : Bool) : STurnNotes.l_made.set x y = { x with made := y } := rfl
def STurnNotes.l_marks : Lens eTurnNotes (ovE nilSl) 1 := lIso _ STurnNotes.to STurnNotes.of (fun _ => rfl) (Lens.comp (lSnd bE (ovE nilSl)) (Lens.id (ovE nilSl)))
@[simp] theorem STurnNotes.get_marks (x : STurnNotes) : STurnNotes.l_marks.get x = x.marks := rfl
@[simp] theorem STurnNotes.set_marks (x : STurnNotes) (y : OV) : STurnNotes.l_marks.set x y = { x with marks := y } := rfl
structure SMark where
  op : UInt8
  word : Int
def SMark.to : (UInt8 × Int) → SMark := fun x => ⟨x.1, x.2⟩
def SMark.of : SMark → (UInt8 × Int) := fun x => (x.op, x.word)
def eMark : Enc SMark := isoE (prodE u8E iE) SMark.to SMark.of
def SMark.l_op : Lens eMark u8E 0 := lIso _ SMark.to SMark.of (fun _ => rfl) (lFst u8E iE)
@[simp] theorem SMark.get_op (x : SMark) : SMark.l_op.get x = x.op := rfl
@[simp] theorem SMark.set_op (x : SMark) (y : UInt8) : SMark.l_op.set x y = { x with op := y } := rfl
def SMark.l_word : Lens eMark iE 1 := lIso _ SMark.to SMark.of (fun _ => rfl) (Lens.comp (lSnd u8E iE) (Lens.id iE))
@[simp] theorem SMark.get_word (x : SMark) : SMark.l_word.get x = x.word := rfl
@[simp] theorem SMark.set_word (x : SMark) (y : Int) : SMark.l_word.set x y = { x with word := y } := rfl
def SMark.eqb (x y : SMark) : Bool := eqd x.op y.op && (eqd x.word y.word && (true))
theorem SMark.eqb_iff (x y : SMark) : SMark.eqb x y = true ↔ x = y := by
  obtain ⟨a0, a1⟩ := x
  obtain ⟨b0, b1⟩ := y
  simp only [SMark.eqb, Bool.and_eq_true, eqd_iff, eqd_iff, SMark.mk.injEq, and_true]
theorem ty79 : TyOK Tryz.prog 79 u8E := TyOK.mk' (by kernel_rfl) (by kernel_rfl)
theorem eqok81 : EqOK Tryz.prog 81 eMark SMark.eqb 2 := eqok_struct (fs := _) Tryz.underlying81 (by kernel_rfl) rfl (EqF.cons (by decide) rfl SMark.l_op ty79 (eqok_u8 Tryz.underlying79) (EqF.cons (by decide) rfl SMark.l_word ty3 (eqok_i Tryz.underlying3) EqF.nil)) (fun _ _ => rfl)
instance : DecidableEq SMark := fun x y => decidable_of_iff (SMark.eqb x y = true) (SMark.eqb_iff x y)
@[simp] theorem SMark.eqb_dec (x y : SMark) : SMark.eqb x y = decide (x = y) := by
  rw [Bool.eq_iff_iff, decide_eq_true_iff]
  exact SMark.eqb_iff x y
def SN (b : Nat) (s : OV × List SMark) : Res := Sep (Var b eTurnNotes ⟨true, s.1⟩ 117) (OwnS s.1.v eMark s.2 81)
theorem ty81 : TyOK Tryz.prog 81 eMark := TyOK.mk' (by kernel_rfl) (by kernel_rfl)
theorem ty77 : TyOK Tryz.prog 77 (ovE nilSl) := TyOK.mk' (by kernel_rfl) (by kernel_rfl)
theorem z81 : (Tryz.prog.info? 81).bind (·.zero) = some (eMark.val eMark.zero) := by kernel_rfl
theorem zb81 : (Tryz.prog.info? 81).map (fun i => (i.zero, i.bytes)) = some (some (eMark.val eMark.zero), 16) := by kernel_rfl
theorem zs81 : (eMark.val eMark.zero).cells.size = eMark.size := by rw [Enc.cells_val, List.size_toArray, Enc.len]
set_option maxRecDepth 8000 in
theorem note_ok (b : Nat) (s : OV × List SMark) (m : SMark) (w : World) (h : At (SN b s) w) (hn : s.2.length ≤ 1048576) : Calls Tryz.prog 176 #[.pointer (some ⟨b, 0, none⟩), eMark.val m] w (Gx.RetR w (SN b s) (fun s2 : OV × List SMark => s2.2 = s.2 ++ [m]) (fun _ => .tuple #[]) (SN b)) := by
  refine enter (SN b s).foot 22 [SN b s] Tryz.func176 rfl rfl (Nat.le_of_ble_eq_true rfl) (start_at h) ?_
  refine sepOut Rem.head ?_
  refine sg (cons (box (E := eMark) (.t rfl) (fun b1 => ?_)))
  refine nP (sg (mv rfl (co (Ev.neq_p Tryz.underlying74 (.t rfl) (.c rfl)) ?_)))
  refine mv rfl (cg rfl rfl (Ev.move (.t rfl)) ?_)
  refine cg rfl rfl (Ev.nilCheck (.g rfl id)) ?_
  refine cg rfl rfl (fA 0 (.g rfl id)) ?_
  refine cg rfl rfl (Ev.ldv ty4 (.g rfl id) STurnNotes.l_made) ?_
  refine co (Ev.pkA (.t rfl) rfl) ?_
  refine nP (condT rfl (rfl) ?_)
  refine draw [Var b1 eMark m 81] (by kernel_rfl) ?_
  refine tk 0 rfl (Ev.move (.t rfl)) ?_
  refine tk 1 rfl (Ev.move (.t rfl)) ?_
  refine tk 2 rfl (Ev.nilCheck (.t rfl)) ?_
  refine tk 3 rfl (fA 1 (.t rfl)) ?_
  refine tk 5 rfl (Ev.ldv ty81 (.t rfl) (Lens.id _)) ?_
  refine all [4, 6] (by kernel_rfl) (by decide) (.cons rfl ?_ (.cons rfl ?_ .nil))
  · refine (opv (Ev.to (v' := s.1.v) (Ev.ldv ty77 (.t rfl) STurnNotes.l_marks) (rfl)) ?_)
    refine hdn (al1 6 rfl ((buildSlice (E := eMark) Tryz.underlying77 ty81 z81 (.cons (.t rfl) .nil) rfl rfl (fun v2 => ?_))))
    refine hdn (al1 7 rfl ((app (E := eMark) Tryz.underlying77 ty81 zb81 zs81 (.t rfl) (.t rfl) (fun v3 => ?_) (hby := ⟨by (show _ ≤ 9223372036854775807); first | omega | (simp; done) | (simp; omega), by first | omega | (simp; done) | (simp; omega)⟩))))
    refine hdn (tk 8 rfl (Ev.nilCheck (.t rfl)) ?_)
    refine tk 9 rfl (fA 1 (.t rfl)) ?_
    refine al1 10 rfl ((stv ty77 STurnNotes.l_marks (.t rfl) (.t rfl) ?_))
    refine hdn (ovr (done' rfl .nil (fun w I => ?_)))
    exact Gx.retR (J := fun s2 : OV × List SMark => s2.2 = s.2 ++ [m]) (val := fun _ => .tuple #[]) (r' := SN b) (v3, s.2 ++ [m]) rfl rfl (List.mem_singleton_self _) w (WInv.sepIn (I.subP (by repeat first | exact SubP.nil | refine SubP.cons (by repeat first | exact Rem.head | apply Rem.tail) ?_)))
  · refine (buildSlice (E := eMark) Tryz.underlying77 ty81 z81 (.cons (.t rfl) .nil) rfl rfl (fun v4 => ?_))
    refine hdn (al1 4 rfl ((opv (Ev.to (v' := s.1.v) (Ev.ldv ty77 (.t rfl) STurnNotes.l_marks) (rfl)) ?_)))
    refine hdn (al1 7 rfl ((app (E := eMark) Tryz.underlying77 ty81 zb81 zs81 (.t rfl) (.t rfl) (fun v5 => ?_) (hby := ⟨by (show _ ≤ 9223372036854775807); first | omega | (simp; done) | (simp; omega), by first | omega | (simp; done) | (simp; omega)⟩))))
    refine hdn (tk 8 rfl (Ev.nilCheck (.t rfl)) ?_)
    refine tk 9 rfl (fA 1 (.t rfl)) ?_
    refine al1 10 rfl ((stv ty77 STurnNotes.l_marks (.t rfl) (.t rfl) ?_))
    refine hdn (ovr (done' rfl .nil (fun w I => ?_)))
    exact Gx.retR (J := fun s2 : OV × List SMark => s2.2 = s.2 ++ [m]) (val := fun _ => .tuple #[]) (r' := SN b) (v5, s.2 ++ [m]) rfl rfl (List.mem_singleton_self _) w (WInv.sepIn (I.subP (by repeat first | exact SubP.nil | refine SubP.cons (by repeat first | exact Rem.head | apply Rem.tail) ?_)))
set_option maxRecDepth 8000 in
theorem step_note (b : Nat) (s : OV × List SMark) (o : UInt8) (w : World) (h : At (SN b s) w) (hn : s.2.length ≤ 1048576) : Calls Tryz.prog 32 #[(ifc 74 (.pointer (some ⟨b, 0, none⟩))).v, U8 o] w (Gx.RetR w (SN b s) (fun s2 : OV × List SMark => s2.2 = s.2 ++ [⟨o, 0⟩]) (fun _ => .tuple #[]) (SN b)) := by
  refine enter (SN b s).foot 10 [SN b s] Tryz.func32 rfl rfl (Nat.le_of_ble_eq_true rfl) (start_at h) ?_
  refine sg (mv rfl (co (neq_if Tryz.underlying90 (.t rfl)) ?_))
  refine nP (condT rfl (rfl) ?_)
  refine region (mv rfl (mv rfl (co (Ev.buildS (fs := _) (places := [(0, 1), (1, 1)]) z81 rfl Tryz.underlying81 (by kernel_rfl) (.cons (.t rfl) .nil) (Fills.cons SMark.l_op rfl Fills.nil)) ?_)))
  refine cons (callIfR (X := OV × List SMark) (r := SN b s) (r' := SN b) (fun s2 => s2.2 = s.2 ++ [⟨o, 0⟩]) (fun _ => .tuple #[]) (fun _ => by repeat first | exact Upd.head | apply Upd.tail | apply Upd.right) (.t rfl) (MethAt.ptr (by kernel_rfl) Tryz.underlying74 (by decide +kernel)) (Gx.Enters.mk' (by kernel_rfl)) (.cons (.t rfl) .nil) (fun w I => note_ok b s ⟨o, 0⟩ w (am w I) hn) (fun s2 hs2 => ?_))
  refine nil (done' rfl .nil (fun w I => ?_))
  exact Gx.retR (val := fun _ => .tuple #[]) (r' := SN b) s2 hs2 rfl (by repeat first | exact mH | apply mT | apply mA) w I
end Go.Proofs.YtakmoeladkajdaaGreat
namespace Go.Proofs.YtakmoeladkajdaaGreat
open Go Go.Gx Go.Proofs.YtakmoeladkajdaaGreat.Tri Go.Proofs.YtakmoeladkajdaaGreat.Oc
set_option maxRecDepth 8000 in
theorem rthere_nil (w : World) : Calls Tryz.prog 28 #[.pointer none] w (RetV w (.bool false)) := by
  refine en0 12 Tryz.func28 ?_
  refine sg (co (Ev.assign (.c (v := .bool false) rfl)) ?_)
  refine nP (sg (mv rfl (co (Ev.neq_p Tryz.underlying38 (.t rfl) (.c rfl)) ?_)))
  refine mv rfl (cons (opgF (v := .bool false) rfl rfl rfl ?_))
  refine cons (opgF (v := .bool false) rfl rfl rfl ?_)
  refine cons (opgF (v := .bool false) rfl rfl rfl ?_)
  refine cons (opgF (v := .bool false) rfl rfl rfl ?_)
  refine cons (opgF (v := .bool false) rfl rfl rfl ?_)
  refine co (Ev.pkA (.t rfl) rfl) ?_
  refine asn rfl (nP (ret (done rfl (.tmp rfl .nil) (retE ?_))))
  rfl
set_option maxRecDepth 8000 in
theorem rthere_no (b : Nat) (x : SRollRoll) (w : World) (hb : PtsTo eRollRoll w b 0 x) (hn : x.new = nilPtr) : Calls Tryz.prog 28 #[.pointer (some ⟨b, 0, none⟩)] w (RetV w (.bool false)) := by
  refine en0 12 Tryz.func28 ?_
  refine sg (co (Ev.assign (.c (v := .bool false) rfl)) ?_)
  refine nP (sg (mv rfl (co (Ev.neq_p Tryz.underlying38 (.t rfl) (.c rfl)) ?_)))
  refine mv rfl (cg rfl rfl (Ev.move (.t rfl)) ?_)
  refine cg rfl rfl (Ev.nilCheck (.g rfl id)) ?_
  refine cg rfl rfl (fA 1 (.g rfl id)) ?_
  refine cg rfl rfl (Ev.to (v' := .pointer none) (Ev.load ty51 (.g rfl id) (ptsL (fun w I => hb.keep I.keeps) SRollRoll.l_new)) (congrArg OV.v hn)) ?_
  refine cg rfl rfl (Ev.neq_p Tryz.underlying51 (.g rfl id) (.c rfl)) ?_
  refine co (Ev.pkA (.t rfl) rfl) ?_
  refine asn rfl (nP (ret (done rfl (.tmp rfl .nil) (retE ?_))))
  first | rfl | (simp; done)
set_option maxRecDepth 8000 in
theorem pass_no (v g : Value) (j : SJob) (w : World) (ht : ∀ w2, Keeps Nope w w2 → Calls Tryz.prog 28 #[v] w2 (RetV w2 (.bool false))) : Calls Tryz.prog 13 #[v, g, eJob.val j] w (RetV w (.tuple #[eVerdict.val eVerdict.zero, .bool false, I 1])) := by
  refine en0 110 Tryz.func13 ?_
  refine sg (cons (box (E := eJob) (.t rfl) (fun b1 => ?_)))
  refine cons (alloc z60 (fun b2 => ?_))
  refine co (Ev.assign (.c (v := .bool false) rfl)) ?_
  refine co (Ev.assign (.c (v := I 0) rfl)) ?_
  refine nP (seq (sg (mv rfl (cons (callv en28 (.cons (.t rfl) .nil) (fun w I => ht w I.keeps) ?_)))))
  refine co (Ev.not (.t rfl)) ?_
  refine nP (condT rfl (rfl) ?_)
  refine sg (co (Ev.buildS (fs := _) (places := [(0, 1), (1, 1), (2, 1), (3, 1), (4, 1)]) z60 rfl Tryz.underlying60 (by kernel_rfl) .nil Fills.nil) ?_)
  refine cons (stv ty60 (Lens.id _) (.t rfl) (.t rfl) ?_)
  refine co (Ev.assign (.c (v := .bool false) rfl)) ?_
  refine co (Ev.assign (.c (v := I 1) rfl)) ?_
  refine nP (ret (pR (done rfl (.cell rfl (fun w I => run_loadVar_pts ty60 (ptsVar (by repeat first | exact mH | apply mT | apply mA) (Lens.id _) w I)) (.tmp rfl (.tmp rfl .nil))) (retE ?_))))
  rfl
set_option maxRecDepth 8000 in
theorem stage_no (v g : Value) (w : World) (ht : ∀ w2, Keeps Nope w w2 → Calls Tryz.prog 28 #[v] w2 (RetV w2 (.bool false))) : Calls Tryz.prog 14 #[v, g] w (RetV w (.tuple #[I 0, U64 0, U64 0, I 1])) := by
  refine en0 26 Tryz.func14 ?_
  refine sg (co (Ev.assign (.c (v := I 0) rfl)) ?_)
  refine co (Ev.assign (.c (v := U64 0) rfl)) ?_
  refine co (Ev.assign (.c (v := U64 0) rfl)) ?_
  refine co (Ev.assign (.c (v := I 0) rfl)) ?_
  refine nP (seq (sg (mv rfl (cons (callv en28 (.cons (.t rfl) .nil) (fun w I => ht w I.keeps) ?_)))))
  refine co (Ev.not (.t rfl)) ?_
  refine nP (condT rfl (rfl) ?_)
  refine sg (co (Ev.assign (.c (v := I 0) rfl)) ?_)
  refine co (Ev.assign (.c (v := U64 0) rfl)) ?_
  refine co (Ev.assign (.c (v := U64 0) rfl)) ?_
  refine co (Ev.assign (.c (v := I 1) rfl)) ?_
  refine nP (ret (pR (done rfl (.tmp rfl (.tmp rfl (.tmp rfl (.tmp rfl .nil)))) (retE ?_))))
  rfl
set_option maxRecDepth 8000 in
theorem over_no (v g : Value) (w : World) (ht : ∀ w2, Keeps Nope w w2 → Calls Tryz.prog 28 #[v] w2 (RetV w2 (.bool false))) : Calls Tryz.prog 15 #[v, g] w (RetV w (.tuple #[.bool false, .bool false, I 1])) := by
  refine en0 24 Tryz.func15 ?_
  refine sg (co (Ev.assign (.c (v := .bool false) rfl)) ?_)
  refine co (Ev.assign (.c (v := .bool false) rfl)) ?_
  refine co (Ev.assign (.c (v := I 0) rfl)) ?_
  refine nP (seq (sg (mv rfl (cons (callv en28 (.cons (.t rfl) .nil) (fun w I => ht w I.keeps) ?_)))))
  refine co (Ev.not (.t rfl)) ?_
  refine nP (condT rfl (rfl) ?_)
  refine sg (co (Ev.assign (.c (v := .bool false) rfl)) ?_)
  refine co (Ev.assign (.c (v := .bool false) rfl)) ?_
  refine co (Ev.assign (.c (v := I 1) rfl)) ?_
  refine nP (ret (pR (done rfl (.tmp rfl (.tmp rfl (.tmp rfl .nil))) (retE ?_))))
  rfl
theorem clone_81 (u : Value) (xs : List SMark) (w : World) (hl : IsSl eMark w u xs) (hn : xs.length * 16 ≤ 140737488355328) : Calls Tryz.prog 39 #[u] w (RetO w eMark xs 81) := by
  have hle := hl.le
  have hl2 := hl
  obtain ⟨sa, cap, rfl, hc1, hc2, hc3, hc4⟩ := hl2
  replace hc3 : sa = none → [] = xs := fun e => (hc3 e).1.symm
  refine en0 8 Tryz.func39 ?_
  refine sg (co (Ev.assign (.c (v := (Go.Value.slice none 0 0)) rfl)) ?_)
  refine nP (seq (sg (mv rfl (co (Ev.eql_slnil Tryz.underlying77 (.t rfl) (.c rfl)) ?_))))
  refine nP ?_
  first | refine condD rfl (fun h0 => ?_) (fun h0 => ?_) | refine cond rfl (fun h0 => ?_) (fun h0 => ?_)
  · try simp only [Gx.nb] at h0
    refine sg (takeNil eMark 81 ?_)
    refine co (Ev.assign (.c (v := (Go.Value.slice none 0 0)) rfl)) ?_
    refine nP (ret (pR (done rfl (.tmp rfl .nil) (retOE (by repeat first | exact mH | apply mT | apply mA) ?_))))
    first | exact hc3 (by simpa using h0) | (symm; exact hc3 (by simpa using h0))
  · try simp only [Gx.nb] at h0
    refine skip (pN (sg (cons (buildSlice (E := eMark) Tryz.underlying77 ty81 z81 .nil rfl rfl (fun v1 => ?_)))))
    refine mv rfl (cons (app (E := eMark) Tryz.underlying77 ty81 zb81 zs81 (.t rfl) (.t rfl) (fun v2 => ?_) (hsrc := (fun w I => hl.keep0 I.keeps)) (hby := ⟨by (show _ ≤ 9223372036854775807); first | omega | (simp; done) | (simp; omega), by first | omega | (simp; done) | (simp; omega)⟩)))
    refine asn rfl (nP (ret (done rfl (.tmp rfl .nil) (retOE (by repeat first | exact mH | apply mT | apply mA) ?_))))
    simp
theorem z117 : (Tryz.prog.info? 117).bind (·.zero) = some (eTurnNotes.val eTurnNotes.zero) := by kernel_rfl
set_option maxRecDepth 8000 in
theorem newnotes_ok (w : World) : Calls Tryz.prog 19 #[] w (RetN w (fun _ : Nat => True) (fun b => .pointer (some ⟨b, 0, none⟩)) (fun b => [Var b eTurnNotes ⟨true, nilSl⟩ 117])) := by
  refine en0 3 Tryz.func19 ?_
  refine sg (co (Ev.assign (.c (v := (Go.Value.pointer none)) rfl)) ?_)
  refine nP (sg (co (Ev.buildS (fs := _) (places := [(0, 1), (1, 1)]) z117 rfl Tryz.underlying117 (by kernel_rfl) (.cons (.c (v := .bool true) rfl) .nil) (Fills.cons STurnNotes.l_made rfl Fills.nil)) ?_))
  refine cons (box (E := eTurnNotes) (.t rfl) (fun b1 => ?_))
  refine asn rfl (nP (ret (done rfl (.tmp rfl .nil) (fun w I => ?_))))
  exact retNP b1 trivial rfl (by repeat first | exact SubP.nil | refine SubP.cons (by repeat first | exact Rem.head | apply Rem.tail) ?_) w I
theorem en39 : Gx.Enters Tryz.prog 39 := Gx.Enters.mk' (by kernel_rfl)
set_option maxRecDepth 8000 in
theorem marks_ok (b : Nat) (o : OV) (l : List SMark) (w : World) (hb : PtsTo eTurnNotes w b 0 ⟨true, o⟩) (hs : IsSl eMark w o.v l) (hl : l.length ≤ 1048576) : Calls Tryz.prog 21 #[.pointer (some ⟨b, 0, none⟩)] w (RetO w eMark l 81) := by
  refine en0 17 Tryz.func21 ?_
  refine sg (co (Ev.assign (.c (v := (Go.Value.slice none 0 0)) rfl)) ?_)
  refine nP (seq (sg (mv rfl (co (Ev.eql_p Tryz.underlying74 (.t rfl) (.c rfl)) ?_))))
  refine mv rfl (cg rfl rfl (Ev.move (.t rfl)) ?_)
  refine cg rfl rfl (Ev.nilCheck (.g rfl id)) ?_
  refine cg rfl rfl (fA 0 (.g rfl id)) ?_
  refine cg rfl rfl (Ev.load ty4 (.g rfl id) (ptsL (fun w I => hb.keep I.keeps) STurnNotes.l_made)) ?_
  refine cg rfl rfl (Ev.not (.g rfl id)) ?_
  refine co (Ev.pkO (.t rfl) rfl) ?_
  refine nP (condF rfl (rfl) ?_)
  refine skip (pN (sg (mv rfl (co (Ev.nilCheck (.t rfl)) ?_))))
  refine co (fA 1 (.t rfl)) ?_
  refine co (Ev.to (v' := o.v) (Ev.load ty77 (.t rfl) (ptsL (fun w I => hb.keep I.keeps) STurnNotes.l_marks)) (rfl)) ?_
  refine cons (callo en39 (.cons (.t rfl) .nil) (fun w I => clone_81 _ l w (hs.keep0 I.keeps) (by omega)) (fun v1 => ?_))
  refine asn rfl (nP (ret (done rfl (.tmp rfl .nil) (retOE (by repeat first | exact mH | apply mT | apply mA) ?_))))
  rfl
set_option maxRecDepth 8000 in
theorem samemarks_ok (u v : Value) (a b : List SMark) (w : World) (ha : IsSl eMark w u a) (hb : IsSl eMark w v b) : Calls Tryz.prog 20 #[u, v] w (RetV w (.bool (decide (a = b)))) := by
  have hal := ha.le
  have hbl := hb.le
  refine en0 26 Tryz.func20 ?_
  refine sg (co (Ev.assign (.c (v := .bool false) rfl)) ?_)
  refine nP (seq (sg (mv rfl (co (Ev.len Tryz.underlying77 (.t rfl) (fun w I => ha.keep0 I.keeps)) ?_))))
  refine mv rfl (co (Ev.len Tryz.underlying77 (.t rfl) (fun w I => hb.keep0 I.keeps)) ?_)
  refine co (Ev.neq_i (.t rfl) (.t rfl)) ?_
  refine nP ?_
  first | refine condD rfl (fun hne => ?_) (fun hlen => ?_) | refine cond rfl (fun hne => ?_) (fun hlen => ?_)
  · try simp only [Gx.nb] at hne
    refine sg (co (Ev.assign (.c (v := .bool false) rfl)) ?_)
    refine nP (ret (pR (done rfl (.tmp rfl .nil) (retE ?_))))
    exact bF (fun e => by subst e; omega)
  · try simp only [Gx.nb] at hlen
    refine skip (pN (seq (sg (co (Ev.assign (.c (v := I 0) rfl)) ?_))))
    refine nP (block (lp (X := Int) (fun x : Int => (0 ≤ x ∧ x ≤ a.length) ∧ (a.take x.toNat = b.take x.toNat)) (fun x : Int => [dz, (0, true, u), (1, true, v), (5, true, I x)]) (fun x : Int => []) (fun x : Int => (a.length - x).toNat) (0) ⟨?_, ?_⟩ (fun x hx => ?_)))
    · omega
    · rfl
    obtain ⟨i, rfl⟩ : ∃ y, y = x := ⟨x, rfl⟩
    obtain ⟨hi, ht⟩ : (0 ≤ i ∧ i ≤ a.length) ∧ (a.take i.toNat = b.take i.toNat) := hx
    show Sat _ _ [dz, (0, true, u), (1, true, v), (5, true, I i)] []
    refine seq (sg (mv rfl (mv rfl (co (Ev.len Tryz.underlying77 (.t rfl) (fun w I => ha.keep0 I.keeps)) ?_))))
    refine co (Ev.lss_i (.t rfl) (.t rfl)) ?_
    refine nP ?_
    first | refine condD rfl (fun hlt => ?_) (fun hge => ?_) | refine cond rfl (fun hlt => ?_) (fun hge => ?_)
    · try simp only [Gx.nb] at hlt
      refine skip (pN (seq (block (seq (draw' (by kernel_rfl) ?_)))))
      refine tk 0 rfl (Ev.move (.t rfl)) ?_
      refine tk 1 rfl (Ev.move (.t rfl)) ?_
      refine tk 2 rfl (Ev.indexAddr Tryz.underlying77 ty81 (.t rfl) (.t rfl) (fun w I => ha.keep0 I.keeps) (fun _ => by omega)) ?_
      refine tk 3 rfl (Ev.loadS0 ty81 (.t rfl) (fun w I => ha.keep0 I.keeps) (fun _ => by omega)) ?_
      refine tk 4 rfl (Ev.move (.t rfl)) ?_
      refine tk 5 rfl (Ev.move (.t rfl)) ?_
      refine tk 6 rfl (Ev.indexAddr Tryz.underlying77 ty81 (.t rfl) (.t rfl) (fun w I => hb.keep0 I.keeps) (fun _ => by omega)) ?_
      refine tk 7 rfl (Ev.loadS0 ty81 (.t rfl) (fun w I => hb.keep0 I.keeps) (fun _ => by omega)) ?_
      refine tk 8 rfl (Ev.neqS rfl eqok81 rfl (by kernel_rfl) (.t rfl) (.t rfl)) ?_
      refine ovr (pN ?_)
      first | refine condD rfl (fun h2 => ?_) (fun h2 => ?_) | refine cond rfl (fun h2 => ?_) (fun h2 => ?_)
      · refine sg (co (Ev.assign (.c (v := .bool false) rfl)) ?_)
        refine nP (ret (bR (pR (pR (bR (pR (done rfl (.tmp rfl .nil) (retE ?_))))))))
        exact bF (fun e => by subst e; simp at h2)
      · refine skip (bN (pN (region (mv rfl (co (Ev.add_i (.t rfl) (.c (v := I 1) rfl) (fun _ => by omega)) ?_)))))
        refine asn rfl (nP (nx (X := Int) (i + 1) ⟨?_, ?_⟩ ?_))
        · try dsimp only
          omega
        · try dsimp only
          have h2c : a.getD i.toNat eMark.zero = b.getD i.toNat eMark.zero := by simpa using h2
          rw [take_snoc a i hi.1 (by omega) eMark.zero, take_snoc b i hi.1 (by omega) eMark.zero, ht, h2c]
        · try dsimp only
          omega
    · try simp only [Gx.nb] at hge
      refine exit (pX (pX (bX (pN (sg (co (Ev.assign (.c (v := .bool true) rfl)) ?_))))))
      refine nP (ret (done rfl (.tmp rfl .nil) (retE ?_)))
      exact bT (by
        have e : i.toNat = a.length := by omega
        rw [e, List.take_length, List.take_of_length_le (by omega)] at ht
        exact ht)
theorem gate_note (b : Nat) : GateOK (ifc 74 (.pointer (some ⟨b, 0, none⟩))).v (SN b) (fun s o s2 => s2.2 = s.2 ++ [(⟨o, 0⟩ : SMark)]) (fun s => s.2.length ≤ 1048576) := fun s o w hl h => step_note b s o w h hl
theorem pass_note (b : Nat) (x0 : RX) (l1 l2 : CL) (d1 d2 : Int) (ss : List SStage) (n : UInt64) (j : SJob) (bs : List UInt8) (V : SVerdict) (m : UInt64) (w : World) (h : At (RG x0 n (SN b) (nilSl, [])) w) (hN : ∀ w2, Keeps (RG x0 n (SN b) (nilSl, [])).foot w w2 → RollAt w2 x0 l1 l2 d1 d2 ss) (hb : ∀ w2, Keeps (RG x0 n (SN b) (nilSl, [])).foot w w2 → IsSl u8E w2 j.packet.v bs) (ho1 : PlanOK x0.p l1 d1) (ho2 : PlanOK x0.q l2 d2) (hs : (splitS n).stage.toNat < ss.length) (hl : ss.length ≤ 256)
    (hV : passV l1 l2 d1 d2 j.in_ ss n bs = V) (hq : way ss n bs = 2) (hm : passW l2 d2 j.in_ ss n bs = m) (he : pE bs = 0) :
    Calls Tryz.prog 13 #[.pointer (some ⟨x0.b, 0, none⟩), (ifc 74 (.pointer (some ⟨b, 0, none⟩))).v, eJob.val j] w (Gx.RetR w (RG x0 n (SN b) (nilSl, [])) (fun s2 : OV × List SMark => s2.2 = [⟨1, 0⟩, ⟨5, 0⟩]) (fun _ => .tuple #[eVerdict.val V, .bool true, I 0]) (fun s2 => RG x0 m (SN b) s2)) := by
  subst hV
  subst hm
  refine (pass_ok (SN b) (fun s o s2 => s2.2 = s.2 ++ [(⟨o, 0⟩ : SMark)]) (fun s => s.2.length ≤ 1048576) (ifc 74 (.pointer (some ⟨b, 0, none⟩))).v (gate_note b) (nilSl, []) (by simp) (fun s1 h1 => by simp only [h1]; simp) x0 l1 l2 d1 d2 ss n j bs w h hN hb ho1 ho2 hs hl).mono ?_
  rintro e w' ⟨s2, hJ, hv, hk, ha, hf⟩
  refine ⟨s2, ?_, ?_, hk, ha, hf⟩
  · unfold passS at hJ
    rw [if_neg (fun q => q he), if_pos hq] at hJ
    obtain ⟨t, h1, h2⟩ := hJ
    simp only at h1 h2
    rw [h2, h1]
    rfl
  · rw [hv]
    have hB : passB ss n bs = true := by
      unfold passB
      rw [if_neg (fun q => q he), hq]
      rfl
    simp only [hB, he]
def LSS : List (List SStage) := [[], [⟨0, 1, 0⟩], [⟨5, 1, 0⟩, ⟨5, 1, 0⟩], [⟨5, 0, 0⟩], [⟨101, 1, 0⟩], [⟨100, 1048576, 1048576⟩]]
def EE : List Int := [310, 310, 310, 310, 310, 0]
theorem ee_tab : ∀ k, k < 6 → rollE dropsL sendsL 2 2 (LSS.getD k []) = EE.getD k 0 := by
  intro k hk
  have h : k = 0 ∨ k = 1 ∨ k = 2 ∨ k = 3 ∨ k = 4 ∨ k = 5 := by omega
  rcases h with rfl | rfl | rfl | rfl | rfl | rfl <;> decide +kernel
def noneL : CL := ⟨[], [], [], [], []⟩
theorem noneN : noneL.Names := names31 (by decide +kernel)
theorem noneZ : noneL.n ≤ 4611686018427387904 := by decide +kernel
theorem e210 : rollE noneL sendsL 0 2 [] = 210 := by decide +kernel
theorem kV1 : passV dropsL sendsL 2 2 1 ss1 2097152 (oneB true) = ⟨3, 1, 0, -1, -1⟩ := by decide +kernel
theorem kW1 : passW sendsL 2 1 ss1 2097152 (oneB true) = 4398046511104 := by decide +kernel
theorem kY1 : way ss1 2097152 (oneB true) = 2 := by decide +kernel
theorem kV2 : passV dropsL sendsL 2 2 1 ss1 4398046511104 (oneB false) = ⟨3, 1, 0, -1, -1⟩ := by decide +kernel
theorem kB2 : passB ss1 4398046511104 (oneB false) = true := by decide +kernel
theorem kW2 : passW sendsL 2 1 ss1 4398046511104 (oneB false) = 1130297955450880 := by decide +kernel
theorem kE3 : pE [] = 160 := by decide +kernel
theorem kB3 : passB ss1 1130297955450880 [] = false := by decide +kernel
theorem kV3 : passV dropsL sendsL 2 2 1 ss1 1130297955450880 [] = eVerdict.zero := by decide +kernel
theorem kW3 : passW sendsL 2 1 ss1 1130297955450880 [] = 1130297955450880 := by decide +kernel
end Go.Proofs.YtakmoeladkajdaaGreat
namespace Go.Proofs.YtakmoeladkajdaaGreat
open Go Go.Gx Go.Proofs.YtakmoeladkajdaaGreat.Tri Go.Proofs.YtakmoeladkajdaaGreat.Oc
theorem lss_n (k : Nat) : (LSS.getD k []).length * 24 ≤ 140737488355328 := by
  by_cases h : k < 6
  · have h2 : k = 0 ∨ k = 1 ∨ k = 2 ∨ k = 3 ∨ k = 4 ∨ k = 5 := by omega
    rcases h2 with rfl | rfl | rfl | rfl | rfl | rfl <;> decide
  · have e : LSS.getD k [] = [] := by
      have : LSS.length ≤ k := by show 6 ≤ k; omega
      simp [List.getD, List.getElem?_eq_none this]
    rw [e]
    decide
theorem hsl6 {v4 v5 v6 v7 v8 : OV} {i : Int} (hi : 0 ≤ i ∧ i < 6) (w : World) (h8 : IsSl eStage w v8.v (LSS.getD 5 [])) (h7 : IsSl eStage w v7.v (LSS.getD 4 [])) (h6 : IsSl eStage w v6.v (LSS.getD 3 [])) (h5 : IsSl eStage w v5.v (LSS.getD 2 [])) (h4 : IsSl eStage w v4.v (LSS.getD 1 [])) : IsSl eStage w ([nilSl, v4, v5, v6, v7, v8].getD i.toNat nilSl).v (LSS.getD i.toNat []) := by
  have h : i = 0 ∨ i = 1 ∨ i = 2 ∨ i = 3 ∨ i = 4 ∨ i = 5 := by omega
  rcases h with rfl | rfl | rfl | rfl | rfl | rfl
  · exact IsSl.nil _ w
  · exact h4
  · exact h5
  · exact h6
  · exact h7
  · exact h8
theorem z29 : (Tryz.prog.info? 29).bind (·.zero) = some ((ovE nilSl).val (ovE nilSl).zero) := by kernel_rfl
theorem ty32 : TyOK Tryz.prog 32 iE := TyOK.mk' (by kernel_rfl) (by kernel_rfl)
theorem z32 : (Tryz.prog.info? 32).bind (·.zero) = some (iE.val iE.zero) := by kernel_rfl
theorem zb32 : (Tryz.prog.info? 32).map (fun i => (i.zero, i.bytes)) = some (some (iE.val iE.zero), 8) := by kernel_rfl
theorem zs32 : (iE.val iE.zero).cells.size = iE.size := by rw [Enc.cells_val, List.size_toArray, Enc.len]
theorem en19 : Gx.Enters Tryz.prog 19 := Gx.Enters.mk' (by kernel_rfl)
theorem en21 : Gx.Enters Tryz.prog 21 := Gx.Enters.mk' (by kernel_rfl)
theorem en20 : Gx.Enters Tryz.prog 20 := Gx.Enters.mk' (by kernel_rfl)
set_option maxRecDepth 20000 in
set_option maxHeartbeats 4000000 in
theorem RollKnown_walk (w : World) : Calls Tryz.prog 5 #[] w (RetV w (.bool true)) := by
  refine en0 293 Tryz.func5 ?_
  refine sg (co (Ev.assign (.c (v := .bool false) rfl)) ?_)
  refine nP (sg (co (Ev.assign (.c (v := (Go.Value.pointer none)) rfl)) ?_))
  refine nP (sg (co (Ev.buildS (fs := _) (places := [(0, 1), (1, 1), (2, 1), (3, 1)]) z58 rfl Tryz.underlying58 (by kernel_rfl) .nil Fills.nil) ?_))
  refine cons (box (E := eRollRoll) (.t rfl) (fun b1 => ?_))
  refine asn rfl (nP (sg (mv rfl (co (Ev.buildS (fs := _) (places := [(0, 1), (1, 1), (2, 1)]) z65 rfl Tryz.underlying65 (by kernel_rfl) .nil Fills.nil) ?_))))
  refine cons (callv en13 (.cons (.t rfl) (.cons (.c (v := Go.Value.nilIface) rfl) (.cons (.t rfl) .nil))) (fun w I => pass_no _ _ _ w (fun w2 k => rthere_nil w2)) ?_)
  refine mv rfl (co (Ev.extract (.t rfl) rfl) (co (Ev.extract (.t rfl) rfl) (co (Ev.extract (.t rfl) rfl) (cons (alloc z60 (fun b2 => ?_))))))
  refine cons (stv ty60 (Lens.id _) (.t rfl) (.t rfl) ?_)
  refine asn rfl (asn rfl (nP (sg (mv rfl (cons (callv en14 (.cons (.t rfl) (.cons (.c (v := Go.Value.nilIface) rfl) .nil)) (fun w I => stage_no _ _ w (fun w2 k => rthere_nil w2)) ?_))))))
  refine mv rfl (co (Ev.extract (.t rfl) rfl) (co (Ev.extract (.t rfl) rfl) (co (Ev.extract (.t rfl) rfl) (co (Ev.extract (.t rfl) rfl) (asn rfl (asn rfl (asn rfl (asn rfl (nP (sg (mv rfl (cons (callv en15 (.cons (.t rfl) (.cons (.c (v := Go.Value.nilIface) rfl) .nil)) (fun w I => over_no _ _ w (fun w2 k => rthere_nil w2)) ?_)))))))))))))
  refine mv rfl (co (Ev.extract (.t rfl) rfl) (co (Ev.extract (.t rfl) rfl) (co (Ev.extract (.t rfl) rfl) (asn rfl (asn rfl (asn rfl (nP (sg (mv rfl (co (Ev.buildS (fs := _) (places := [(0, 1), (1, 1), (2, 1)]) z65 rfl Tryz.underlying65 (by kernel_rfl) .nil Fills.nil) ?_))))))))))
  refine cons (callv en13 (.cons (.t rfl) (.cons (.c (v := Go.Value.nilIface) rfl) (.cons (.t rfl) .nil))) (fun w I => pass_no _ _ _ w (fun w2 k => rthere_no _ eRollRoll.zero w2 ((ptsVar (E' := eRollRoll) (by repeat first | exact mH | apply mT | apply mA) (Lens.id _) w I).keep k) rfl)) ?_)
  refine mv rfl (co (Ev.extract (.t rfl) rfl) (co (Ev.extract (.t rfl) rfl) (co (Ev.extract (.t rfl) rfl) (cons (alloc z60 (fun b3 => ?_))))))
  refine cons (stv ty60 (Lens.id _) (.t rfl) (.t rfl) ?_)
  refine asn rfl (asn rfl (nP (sg (mv rfl (cons (callv en14 (.cons (.t rfl) (.cons (.c (v := Go.Value.nilIface) rfl) .nil)) (fun w I => stage_no _ _ w (fun w2 k => rthere_no _ eRollRoll.zero w2 ((ptsVar (E' := eRollRoll) (by repeat first | exact mH | apply mT | apply mA) (Lens.id _) w I).keep k) rfl)) ?_))))))
  refine mv rfl (co (Ev.extract (.t rfl) rfl) (co (Ev.extract (.t rfl) rfl) (co (Ev.extract (.t rfl) rfl) (co (Ev.extract (.t rfl) rfl) (asn rfl (asn rfl (asn rfl (asn rfl (nP (sg (mv rfl (cons (callv en15 (.cons (.t rfl) (.cons (.c (v := Go.Value.nilIface) rfl) .nil)) (fun w I => over_no _ _ w (fun w2 k => rthere_no _ eRollRoll.zero w2 ((ptsVar (E' := eRollRoll) (by repeat first | exact mH | apply mT | apply mA) (Lens.id _) w I).keep k) rfl)) ?_)))))))))))))
  refine mv rfl (co (Ev.extract (.t rfl) rfl) (co (Ev.extract (.t rfl) rfl) (co (Ev.extract (.t rfl) rfl) (asn rfl (asn rfl (asn rfl (nP (sg (mv rfl (co (Ev.eql_i (.t rfl) (.c (v := I 1) rfl)) ?_))))))))))
  refine mv rfl (cg rfl rfl (Ev.move (.t rfl)) ?_)
  refine cg rfl rfl (Ev.eql_i (.g rfl id) (.c (v := I 1) rfl)) ?_
  refine co (Ev.pkA (.t rfl) rfl) ?_
  refine mv rfl (cg rfl rfl (Ev.move (.t rfl)) ?_)
  refine cg rfl rfl (Ev.eql_i (.g rfl id) (.c (v := I 1) rfl)) ?_
  refine co (Ev.pkA (.t rfl) rfl) ?_
  refine mv rfl (cg rfl rfl (Ev.move (.t rfl)) ?_)
  refine cg rfl rfl (Ev.eql_i (.g rfl id) (.c (v := I 1) rfl)) ?_
  refine co (Ev.pkA (.t rfl) rfl) ?_
  refine mv rfl (cg rfl rfl (Ev.move (.t rfl)) ?_)
  refine cg rfl rfl (Ev.eql_i (.g rfl id) (.c (v := I 1) rfl)) ?_
  refine co (Ev.pkA (.t rfl) rfl) ?_
  refine mv rfl (cg rfl rfl (Ev.move (.t rfl)) ?_)
  refine cg rfl rfl (Ev.eql_i (.g rfl id) (.c (v := I 1) rfl)) ?_
  refine co (Ev.to (v' := .bool true) (Ev.pkA (.t rfl) rfl) (rfl)) ?_
  refine asn rfl (nP (sg (co (Ev.assign (.c (v := (Go.Value.slice none 0 0)) rfl)) ?_)))
  refine takeNil iE 32 ?_
  refine nP (seq (seq (takeNil iE 32 ?_)))
  refine region (co (Ev.to (v' := eStage.val (⟨0, 1, 0⟩ : SStage)) (Ev.buildS (fs := _) (places := [(0, 1), (1, 1), (2, 1)]) z37 rfl Tryz.underlying37 (by kernel_rfl) (.cons (.c (v := I 0) rfl) (.cons (.c (v := U64 1) rfl) .nil)) (Fills.cons SStage.l_parts rfl (Fills.cons SStage.l_wait rfl Fills.nil))) (rfl)) ?_)
  refine cons (buildSlice (E := eStage) Tryz.underlying29 ty37 z37 (.cons (.t rfl) .nil) rfl rfl (fun v4 => ?_))
  refine co (Ev.to (v' := eStage.val (⟨5, 1, 0⟩ : SStage)) (Ev.buildS (fs := _) (places := [(0, 1), (1, 1), (2, 1)]) z37 rfl Tryz.underlying37 (by kernel_rfl) (.cons (.c (v := I 5) rfl) (.cons (.c (v := U64 1) rfl) .nil)) (Fills.cons SStage.l_parts rfl (Fills.cons SStage.l_wait rfl Fills.nil))) (rfl)) ?_
  refine co (Ev.to (v' := eStage.val (⟨5, 1, 0⟩ : SStage)) (Ev.buildS (fs := _) (places := [(0, 1), (1, 1), (2, 1)]) z37 rfl Tryz.underlying37 (by kernel_rfl) (.cons (.c (v := I 5) rfl) (.cons (.c (v := U64 1) rfl) .nil)) (Fills.cons SStage.l_parts rfl (Fills.cons SStage.l_wait rfl Fills.nil))) (rfl)) ?_
  refine cons (buildSlice (E := eStage) Tryz.underlying29 ty37 z37 (.cons (.t rfl) (.cons (.t rfl) .nil)) rfl rfl (fun v5 => ?_))
  refine co (Ev.to (v' := eStage.val (⟨5, 0, 0⟩ : SStage)) (Ev.buildS (fs := _) (places := [(0, 1), (1, 1), (2, 1)]) z37 rfl Tryz.underlying37 (by kernel_rfl) (.cons (.c (v := I 5) rfl) .nil) (Fills.cons SStage.l_parts rfl Fills.nil)) (rfl)) ?_
  refine cons (buildSlice (E := eStage) Tryz.underlying29 ty37 z37 (.cons (.t rfl) .nil) rfl rfl (fun v6 => ?_))
  refine co (Ev.to (v' := eStage.val (⟨101, 1, 0⟩ : SStage)) (Ev.buildS (fs := _) (places := [(0, 1), (1, 1), (2, 1)]) z37 rfl Tryz.underlying37 (by kernel_rfl) (.cons (.c (v := I 101) rfl) (.cons (.c (v := U64 1) rfl) .nil)) (Fills.cons SStage.l_parts rfl (Fills.cons SStage.l_wait rfl Fills.nil))) (rfl)) ?_
  refine cons (buildSlice (E := eStage) Tryz.underlying29 ty37 z37 (.cons (.t rfl) .nil) rfl rfl (fun v7 => ?_))
  refine co (Ev.to (v' := eStage.val (⟨100, 1048576, 1048576⟩ : SStage)) (Ev.buildS (fs := _) (places := [(0, 1), (1, 1), (2, 1)]) z37 rfl Tryz.underlying37 (by kernel_rfl) (.cons (.c (v := I 100) rfl) (.cons (.c (v := U64 1048576) rfl) (.cons (.c (v := U64 1048576) rfl) .nil))) (Fills.cons SStage.l_parts rfl (Fills.cons SStage.l_wait rfl (Fills.cons SStage.l_most rfl Fills.nil)))) (rfl)) ?_
  refine cons (buildSlice (E := eStage) Tryz.underlying29 ty37 z37 (.cons (.t rfl) .nil) rfl rfl (fun v8 => ?_))
  refine cons (buildSlice (E := (ovE nilSl)) Tryz.underlying71 ty29 z29 (.cons (.c (v := (ovE nilSl).val (ovE nilSl).zero) rfl) (.cons (.t rfl) (.cons (.t rfl) (.cons (.t rfl) (.cons (.t rfl) (.cons (.t rfl) .nil)))))) rfl rfl (fun v9 => ?_))
  refine co (Ev.len Tryz.underlying71 (.t rfl) (by first | exact isSl_own (by repeat first | exact mH | apply mT | apply mA) | exact fun w I => IsSl.keep0 (by assumption) I.keeps)) ?_
  refine co (Ev.move (.c (v := I 0) rfl)) ?_
  refine nP (block (lp (X := Int × OV) (fun x : Int × OV => (0 ≤ x.1 ∧ x.1 ≤ 6)) (fun x : Int × OV => [dz, (23, true, .bool true), (24, true, x.2.v), (129, true, v9.v), (130, true, I 6), (131, true, I x.1)]) (fun x : Int × OV => [OwnS v9.v (ovE nilSl) [nilSl, v4, v5, v6, v7, v8] 29, OwnS v8.v eStage (LSS.getD 5 []) 37, OwnS v7.v eStage (LSS.getD 4 []) 37, OwnS v6.v eStage (LSS.getD 3 []) 37, OwnS v5.v eStage (LSS.getD 2 []) 37, OwnS v4.v eStage (LSS.getD 1 []) 37, OwnS x.2.v iE (EE.take x.1.toNat) 32]) (fun x : Int × OV => (6 - x.1).toNat) (0, nilSl) ?_ (fun x hx => ?_)))
  · omega
  obtain ⟨i, q⟩ := x
  have hi : 0 ≤ i ∧ i ≤ 6 := hx
  clear hx
  show Sat _ _ [dz, (23, true, .bool true), (24, true, q.v), (129, true, v9.v), (130, true, I 6), (131, true, I i)] [OwnS v9.v (ovE nilSl) [nilSl, v4, v5, v6, v7, v8] 29, OwnS v8.v eStage (LSS.getD 5 []) 37, OwnS v7.v eStage (LSS.getD 4 []) 37, OwnS v6.v eStage (LSS.getD 3 []) 37, OwnS v5.v eStage (LSS.getD 2 []) 37, OwnS v4.v eStage (LSS.getD 1 []) 37, OwnS q.v iE (EE.take i.toNat) 32]
  refine sg (co (Ev.lss_i (.t rfl) (.t rfl)) ?_)
  refine nP (seq ?_)
  first | refine condD rfl (fun h0 => ?_) (fun h0 => ?_) | refine cond rfl (fun h0 => ?_) (fun h0 => ?_)
  · try simp only [Gx.nb] at h0
    refine skip (pN (seq (block (sg (co (Ev.indexAddr Tryz.underlying71 ty29 (.t rfl) (.t rfl) (by first | exact isSl_own (by repeat first | exact mH | apply mT | apply mA) | exact fun w I => IsSl.keep0 (by assumption) I.keeps) (fun _ => by simp only [List.length_cons, List.length_nil]; omega)) ?_)))))
    refine co (Ev.loadS0 ty29 (.t rfl) (by first | exact isSl_own (by repeat first | exact mH | apply mT | apply mA) | exact fun w I => IsSl.keep0 (by assumption) I.keeps) (fun _ => by simp only [List.length_cons, List.length_nil]; omega)) ?_
    refine asn rfl (nP (seq ?_))
    have hi9 : 0 ≤ i ∧ i < 6 := by omega
    refine region (cons (calln (X := OV) (fun _ => True) (fun o => eConf.val ⟨o, nilSl, nilSl, nilSl, nilSl, 2⟩) (fun o => [OwnS o.v iE [1] 3]) en16 .nil (fun w I => drops_ok w) (fun dd _ => ?_)))
    refine cons (calln (X := OV × OV) (fun _ => True) (fun o => eConf.val ⟨o.1, nilSl, o.2, nilSl, nilSl, 2⟩) (fun o => [OwnS o.1.v iE [1] 3, OwnS o.2.v eRule [allU] 113]) en17 .nil (fun w I => sends_ok w) (fun sd _ => ?_))
    refine mv rfl (cons (calln (X := RX) (fun x : RX => rollE dropsL sendsL 2 2 (LSS.getD i.toNat []) = 0 → NewJ dropsL sendsL 2 2 (LSS.getD i.toNat []) x) (fun x => .tuple #[.pointer (rollO (rollE dropsL sendsL 2 2 (LSS.getD i.toNat [])) x.b), I (rollE dropsL sendsL 2 2 (LSS.getD i.toNat []))]) (fun x => if rollE dropsL sendsL 2 2 (LSS.getD i.toNat []) = 0 then x.R (LSS.getD i.toNat []) else []) en8 (.cons (.t rfl) (.cons (.t rfl) (.cons (.t rfl) .nil))) (fun w I => new_ok (⟨dd, nilSl, nilSl, nilSl, nilSl, 2⟩ : SConf) (⟨sd.1, nilSl, sd.2, nilSl, nilSl, 2⟩ : SConf) dropsL sendsL _ (LSS.getD i.toNat []) w (co_drops w I (by repeat first | exact mH | apply mT | apply mA)) (co_sends w I (by repeat first | exact mH | apply mT | apply mA) (by repeat first | exact mH | apply mT | apply mA)) (hsl6 hi9 w (io w I) (io w I) (io w I) (io w I) (io w I)) dropsN sendsN dropsZ sendsZ (lss_n _)) (fun xx _ => ?_)))
    refine mv rfl (co (Ev.extract (.t rfl) rfl) (co (Ev.to (v' := I (EE.getD i.toNat 0)) (Ev.extract (.t rfl) rfl) (congrArg Gx.I (ee_tab _ (by omega)))) ?_))
    refine asn rfl (asn rfl (nP (region (mv rfl (mv rfl (cons (buildSlice (E := iE) Tryz.underlying70 ty32 z32 (.cons (.t rfl) .nil) rfl rfl (fun v10 => ?_))))))))
    refine cons (app (E := iE) Tryz.underlying70 ty32 zb32 zs32 (.t rfl) (.t rfl) (fun v11 => ?_) (hby := ⟨by (show _ ≤ 9223372036854775807); first | omega | (simp; done) | (simp; omega), by first | omega | (simp; done) | (simp; omega)⟩))
    refine asn rfl (nil (bN (pN (region (co (Ev.add_i (.t rfl) (.c (v := I 1) rfl) (fun _ => by omega)) ?_)))))
    refine mv rfl (nP (nx (X := Int × OV) (i + 1, _) ?_ ?_ (hL := (by rw [take_snoc EE i hi.1 (by show i < 6; omega) 0]; exact (by repeat first | exact sR | exact sN | apply sC | apply sS | apply sA)))))
    · try dsimp only
      omega
    · try dsimp only
      omega
  · try simp only [Gx.nb] at h0
    refine exit (pX (pX (bX (pN (seq ?_)))))
    have e6 : i.toNat = 6 := by omega
    rw [e6, show EE.take 6 = EE from rfl]
    refine region (mv rfl (co (Ev.indexAddr Tryz.underlying70 ty32 (.t rfl) (.c (v := I 0) rfl) (by first | exact isSl_own (by repeat first | exact mH | apply mT | apply mA) | exact fun w I => IsSl.keep0 (by assumption) I.keeps) (fun _ => by decide)) ?_))
    refine co (Ev.loadS0 (i := 0) ty32 (.t rfl) (by first | exact isSl_own (by repeat first | exact mH | apply mT | apply mA) | exact fun w I => IsSl.keep0 (by assumption) I.keeps) (fun _ => by decide)) ?_
    refine co (Ev.eql_i (.t rfl) (.c (v := I 310) rfl)) ?_
    refine mv rfl (cg rfl rfl (Ev.move (.t rfl)) ?_)
    refine cg rfl rfl (Ev.indexAddr Tryz.underlying70 ty32 (.g rfl id) (.c (v := I 1) rfl) (by first | exact isSl_own (by repeat first | exact mH | apply mT | apply mA) | exact fun w I => IsSl.keep0 (by assumption) I.keeps) (fun _ => by decide)) ?_
    refine cg rfl rfl (Ev.loadS0 (i := 1) ty32 (.g rfl id) (by first | exact isSl_own (by repeat first | exact mH | apply mT | apply mA) | exact fun w I => IsSl.keep0 (by assumption) I.keeps) (fun _ => by decide)) ?_
    refine cg rfl rfl (Ev.eql_i (.g rfl id) (.c (v := I 310) rfl)) ?_
    refine co (Ev.pkA (.t rfl) rfl) ?_
    refine mv rfl (cg rfl rfl (Ev.move (.t rfl)) ?_)
    refine cg rfl rfl (Ev.indexAddr Tryz.underlying70 ty32 (.g rfl id) (.c (v := I 2) rfl) (by first | exact isSl_own (by repeat first | exact mH | apply mT | apply mA) | exact fun w I => IsSl.keep0 (by assumption) I.keeps) (fun _ => by decide)) ?_
    refine cg rfl rfl (Ev.loadS0 (i := 2) ty32 (.g rfl id) (by first | exact isSl_own (by repeat first | exact mH | apply mT | apply mA) | exact fun w I => IsSl.keep0 (by assumption) I.keeps) (fun _ => by decide)) ?_
    refine cg rfl rfl (Ev.eql_i (.g rfl id) (.c (v := I 310) rfl)) ?_
    refine co (Ev.pkA (.t rfl) rfl) ?_
    refine mv rfl (cg rfl rfl (Ev.move (.t rfl)) ?_)
    refine cg rfl rfl (Ev.indexAddr Tryz.underlying70 ty32 (.g rfl id) (.c (v := I 3) rfl) (by first | exact isSl_own (by repeat first | exact mH | apply mT | apply mA) | exact fun w I => IsSl.keep0 (by assumption) I.keeps) (fun _ => by decide)) ?_
    refine cg rfl rfl (Ev.loadS0 (i := 3) ty32 (.g rfl id) (by first | exact isSl_own (by repeat first | exact mH | apply mT | apply mA) | exact fun w I => IsSl.keep0 (by assumption) I.keeps) (fun _ => by decide)) ?_
    refine cg rfl rfl (Ev.eql_i (.g rfl id) (.c (v := I 310) rfl)) ?_
    refine co (Ev.pkA (.t rfl) rfl) ?_
    refine mv rfl (cg rfl rfl (Ev.move (.t rfl)) ?_)
    refine cg rfl rfl (Ev.indexAddr Tryz.underlying70 ty32 (.g rfl id) (.c (v := I 4) rfl) (by first | exact isSl_own (by repeat first | exact mH | apply mT | apply mA) | exact fun w I => IsSl.keep0 (by assumption) I.keeps) (fun _ => by decide)) ?_
    refine cg rfl rfl (Ev.loadS0 (i := 4) ty32 (.g rfl id) (by first | exact isSl_own (by repeat first | exact mH | apply mT | apply mA) | exact fun w I => IsSl.keep0 (by assumption) I.keeps) (fun _ => by decide)) ?_
    refine cg rfl rfl (Ev.eql_i (.g rfl id) (.c (v := I 310) rfl)) ?_
    refine co (Ev.pkA (.t rfl) rfl) ?_
    refine mv rfl (cg rfl rfl (Ev.move (.t rfl)) ?_)
    refine cg rfl rfl (Ev.indexAddr Tryz.underlying70 ty32 (.g rfl id) (.c (v := I 5) rfl) (by first | exact isSl_own (by repeat first | exact mH | apply mT | apply mA) | exact fun w I => IsSl.keep0 (by assumption) I.keeps) (fun _ => by decide)) ?_
    refine cg rfl rfl (Ev.loadS0 (i := 5) ty32 (.g rfl id) (by first | exact isSl_own (by repeat first | exact mH | apply mT | apply mA) | exact fun w I => IsSl.keep0 (by assumption) I.keeps) (fun _ => by decide)) ?_
    refine cg rfl rfl (Ev.eql_i (.g rfl id) (.c (v := I 0) rfl)) ?_
    refine co (Ev.to (v' := .bool true) (Ev.pkA (.t rfl) rfl) (rfl)) ?_
    refine asn rfl (nP (sg (co (Ev.buildS (fs := _) (places := [(0, 1), (1, 1), (2, 1), (3, 1), (4, 1), (5, 1)]) z28 rfl Tryz.underlying28 (by kernel_rfl) .nil Fills.nil) ?_)))
    refine cons (calln (X := OV × OV) (fun _ => True) (fun o => eConf.val ⟨o.1, nilSl, o.2, nilSl, nilSl, 2⟩) (fun o => [OwnS o.1.v iE [1] 3, OwnS o.2.v eRule [allU] 113]) en17 .nil (fun w I => sends_ok w) (fun sd _ => ?_))
    refine cons (callv en8 (.cons (.t rfl) (.cons (.t rfl) (.cons (.c (v := (Go.Value.slice none 0 0)) rfl) .nil))) (fun w I => new_err (c1 := eConf.zero) (l1 := noneL) (l2 := sendsL) (ss := []) (e := 210) ⟨IsSl.nil _ w, IsSl.nil _ w, IsSl.nil _ w, IsSl.nil _ w, IsSl.nil _ w⟩ (co_sends w I (by repeat first | exact mH | apply mT | apply mA) (by repeat first | exact mH | apply mT | apply mA)) (IsSl.nil _ w) noneN sendsN noneZ sendsZ (by decide) rfl rfl e210 (by decide)) ?_)
    refine mv rfl (co (Ev.extract (.t rfl) rfl) (co (Ev.extract (.t rfl) rfl) (asn rfl (asn rfl (nP (sg (cons (callo en18 (.cons (.c (v := .bool true) rfl) .nil) (fun w I => one_ok true w) (fun plow => ?_)))))))))
    refine cons (callo en18 (.cons (.c (v := .bool false) rfl) .nil) (fun w I => one_ok false w) (fun phigh => ?_))
    refine asn rfl (asn rfl (nP (sg (cons (calln (X := OV) (fun _ => True) (fun o => eConf.val ⟨o, nilSl, nilSl, nilSl, nilSl, 2⟩) (fun o => [OwnS o.v iE [1] 3]) en16 .nil (fun w I => drops_ok w) (fun dd _ => ?_))))))
    refine cons (calln (X := OV × OV) (fun _ => True) (fun o => eConf.val ⟨o.1, nilSl, o.2, nilSl, nilSl, 2⟩) (fun o => [OwnS o.1.v iE [1] 3, OwnS o.2.v eRule [allU] 113]) en17 .nil (fun w I => sends_ok w) (fun sd _ => ?_))
    refine co (Ev.buildS (fs := _) (places := [(0, 1), (1, 1), (2, 1)]) z37 rfl Tryz.underlying37 (by kernel_rfl) (.cons (.c (v := I 50) rfl) (.cons (.c (v := U64 2) rfl) .nil)) (Fills.cons SStage.l_parts rfl (Fills.cons SStage.l_wait rfl Fills.nil))) ?_
    refine co (Ev.buildS (fs := _) (places := [(0, 1), (1, 1), (2, 1)]) z37 rfl Tryz.underlying37 (by kernel_rfl) (.cons (.c (v := I 100) rfl) (.cons (.c (v := U64 1) rfl) .nil)) (Fills.cons SStage.l_parts rfl (Fills.cons SStage.l_wait rfl Fills.nil))) ?_
    refine cons (buildSlice (E := eStage) Tryz.underlying29 ty37 z37 (.cons (.t rfl) (.cons (.t rfl) .nil)) rfl rfl (fun v12 => ?_))
    refine cons (calln (X := RX) (NewJ dropsL sendsL 2 2 ss1) (fun x => .tuple #[.pointer (some ⟨x.b, 0, none⟩), I 0]) (fun x => [Var x.b eRollRoll (x.rv 0) 58, x.r, OwnS x.sv.v eStage ss1 37]) en8 (.cons (.t rfl) (.cons (.t rfl) (.cons (.t rfl) .nil))) (fun w I => new_good (co_drops w I (by repeat first | exact mH | apply mT | apply mA)) (co_sends w I (by repeat first | exact mH | apply mT | apply mA) (by repeat first | exact mH | apply mT | apply mA)) (isSl_own (xs := ss1) (by repeat first | exact mH | apply mT | apply mA) w I) dropsN sendsN dropsZ sendsZ (by decide) rfl rfl e1) (fun x1 hx1 => ?_))
    refine mv rfl (co (Ev.extract (.t rfl) rfl) (co (Ev.extract (.t rfl) rfl) (asn rfl (asn rfl (nP (seq (sg (mv rfl (co (Ev.neq_i (.t rfl) (.c (v := I 0) rfl)) ?_)))))))))
    refine nP (condF rfl (rfl) ?_)
    refine skip (pN (sg (mv rfl (mv rfl (co (Ev.buildS (fs := _) (places := [(0, 1), (1, 1), (2, 1)]) z65 rfl Tryz.underlying65 (by kernel_rfl) (.cons (.c (v := I 1) rfl) (.cons (.t rfl) .nil)) (Fills.cons SJob.l_in_ rfl (Fills.cons SJob.l_packet rfl Fills.nil))) ?_)))))
    refine cons (callr (X := Unit) (fun _ => True) (fun _ => .tuple #[eVerdict.val (⟨3, 1, 0, -1, -1⟩ : SVerdict), .bool true, I 0]) (r := Var x1.b eRollRoll (x1.rv 0) 58) (r' := fun _ => Var x1.b eRollRoll (x1.rv 2097152) 58) (fun _ => by repeat first | exact Upd.head | apply Upd.tail | apply Upd.right) (by repeat first | exact mH | apply mT | apply mA) en13 (.cons (.t rfl) (.cons (.c (v := Go.Value.nilIface) rfl) (.cons (.t rfl) .nil))) (fun w I => pass_nil x1 dropsL sendsL 2 2 ss1 0 _ (oneB true) _ _ _ _ w (am w I) (roll_keep I (by repeat first | exact Rem.head | apply Rem.tail) (by repeat first | exact mH | apply mT | apply mA) (by repeat first | exact mH | apply mT | apply mA) hx1) (own_keep (v := plow.v) I (by repeat first | exact Rem.head | apply Rem.tail) (by repeat first | exact mH | apply mT | apply mA)) hx1.p hx1.q (by decide) (by decide) pV2 pB2 pW2 (pE1 _)) (fun _ _ => ?_))
    refine nP (sg (cons (calln (X := Nat) (fun _ => True) (fun b => .pointer (some ⟨b, 0, none⟩)) (fun b => [Var b eTurnNotes ⟨true, nilSl⟩ 117]) en19 .nil (fun w I => newnotes_ok w) (fun bn _ => ?_))))
    refine asn rfl (nP (seq (takeNil eMark 81 ?_)))
    refine sepIn (r := Var bn eTurnNotes ⟨true, nilSl⟩ 117) (s := OwnS nilSl.v eMark [] 81) (by repeat first | exact Rem.head | apply Rem.tail) (by repeat first | exact Rem.head | apply Rem.tail) ?_
    refine sepIn (r := Var x1.b eRollRoll (x1.rv 2097152) 58) (s := SN bn (nilSl, [])) (by repeat first | exact Rem.head | apply Rem.tail) (by repeat first | exact Rem.head | apply Rem.tail) ?_
    refine region (mv rfl (mv rfl (co (Ev.makeIf Tryz.underlying74 rfl (.t rfl)) ?_)))
    refine mv rfl (co (Ev.buildS (fs := _) (places := [(0, 1), (1, 1), (2, 1)]) z65 rfl Tryz.underlying65 (by kernel_rfl) (.cons (.c (v := I 1) rfl) (.cons (.t rfl) .nil)) (Fills.cons SJob.l_in_ rfl (Fills.cons SJob.l_packet rfl Fills.nil))) ?_)
    refine cons (callr (X := OV × List SMark) (fun s2 => s2.2 = [⟨1, 0⟩, ⟨5, 0⟩]) (fun _ => .tuple #[eVerdict.val (⟨3, 1, 0, -1, -1⟩ : SVerdict), .bool true, I 0]) (r := RG x1 2097152 (SN bn) (nilSl, [])) (r' := fun s2 => RG x1 4398046511104 (SN bn) s2) (fun _ => by repeat first | exact Upd.head | apply Upd.tail | apply Upd.right) (by repeat first | exact mH | apply mT | apply mA) en13 (.cons (.t rfl) (.cons (.t rfl) (.cons (.t rfl) .nil))) (fun w I => pass_note bn x1 dropsL sendsL 2 2 ss1 2097152 _ (oneB true) _ _ w (am w I) (roll_keep I (by repeat first | exact Rem.head | apply Rem.tail) (by repeat first | exact mH | apply mT | apply mA) (by repeat first | exact mH | apply mT | apply mA) hx1) (own_keep (v := plow.v) I (by repeat first | exact Rem.head | apply Rem.tail) (by repeat first | exact mH | apply mT | apply mA)) hx1.p hx1.q (by decide) (by decide) kV1 kY1 kW1 (pE1 _)) (fun s2 hs2 => ?_))
    refine mv rfl (co (Ev.extract (.t rfl) rfl) (co (Ev.extract (.t rfl) rfl) (co (Ev.extract (.t rfl) rfl) (cons (alloc z60 (fun b13 => ?_))))))
    refine cons (stv ty60 (Lens.id _) (.t rfl) (.t rfl) ?_)
    refine asn rfl (asn rfl (nP (seq (sepOut (r := Var x1.b eRollRoll (x1.rv 4398046511104) 58) (s := SN bn s2) (by repeat first | exact Rem.head | apply Rem.tail) ?_))))
    refine sepOut (r := Var bn eTurnNotes ⟨true, s2.1⟩ 117) (s := OwnS s2.1.v eMark s2.2 81) (by repeat first | exact Rem.head | apply Rem.tail) ?_
    refine region (mv rfl (cons (callo en21 (.cons (.t rfl) .nil) (fun w I => marks_ok bn s2.1 s2.2 w (ptsVar (by repeat first | exact mH | apply mT | apply mA) (Lens.id _) w I) (io w I) (by rw [hs2]; decide)) (fun v14 => ?_))))
    refine co (Ev.to (v' := eMark.val (⟨1, 0⟩ : SMark)) (Ev.buildS (fs := _) (places := [(0, 1), (1, 1)]) z81 rfl Tryz.underlying81 (by kernel_rfl) (.cons (.c (v := U8 1) rfl) .nil) (Fills.cons SMark.l_op rfl Fills.nil)) (rfl)) ?_
    refine co (Ev.to (v' := eMark.val (⟨5, 0⟩ : SMark)) (Ev.buildS (fs := _) (places := [(0, 1), (1, 1)]) z81 rfl Tryz.underlying81 (by kernel_rfl) (.cons (.c (v := U8 5) rfl) .nil) (Fills.cons SMark.l_op rfl Fills.nil)) (rfl)) ?_
    refine cons (buildSlice (E := eMark) Tryz.underlying77 ty81 z81 (.cons (.t rfl) (.cons (.t rfl) .nil)) rfl rfl (fun v15 => ?_))
    refine cons (callv en20 (.cons (.t rfl) (.cons (.t rfl) .nil)) (fun w I => samemarks_ok _ _ _ [⟨1, 0⟩, ⟨5, 0⟩] w (isSl_own (xs := s2.2) (by repeat first | exact mH | apply mT | apply mA) w I) (io w I)) ?_)
    refine co (Ev.to (v' := .bool true) (Ev.assign (.t rfl)) (congrArg Value.bool (decide_eq_true hs2))) ?_
    refine nP (sg (mv rfl (cons (callv en14 (.cons (.t rfl) (.cons (.c (v := Go.Value.nilIface) rfl) .nil)) (fun w I => stage_to x1 4398046511104 1 0 0 w (ptsVar (by repeat first | exact mH | apply mT | apply mA) (Lens.id _) w I) (by decide +kernel)) ?_))))
    refine mv rfl (co (Ev.extract (.t rfl) rfl) (co (Ev.extract (.t rfl) rfl) (co (Ev.extract (.t rfl) rfl) (co (Ev.extract (.t rfl) rfl) (asn rfl (asn rfl (asn rfl (asn rfl (nP (sg (mv rfl (mv rfl (co (Ev.buildS (fs := _) (places := [(0, 1), (1, 1), (2, 1)]) z65 rfl Tryz.underlying65 (by kernel_rfl) (.cons (.c (v := I 1) rfl) (.cons (.t rfl) .nil)) (Fills.cons SJob.l_in_ rfl (Fills.cons SJob.l_packet rfl Fills.nil))) ?_)))))))))))))
    refine cons (callr (X := Unit) (fun _ => True) (fun _ => .tuple #[eVerdict.val (⟨3, 1, 0, -1, -1⟩ : SVerdict), .bool true, I 0]) (r := Var x1.b eRollRoll (x1.rv 4398046511104) 58) (r' := fun _ => Var x1.b eRollRoll (x1.rv 1130297955450880) 58) (fun _ => by repeat first | exact Upd.head | apply Upd.tail | apply Upd.right) (by repeat first | exact mH | apply mT | apply mA) en13 (.cons (.t rfl) (.cons (.c (v := Go.Value.nilIface) rfl) (.cons (.t rfl) .nil))) (fun w I => pass_nil x1 dropsL sendsL 2 2 ss1 4398046511104 _ (oneB false) _ _ _ _ w (am w I) (roll_keep I (by repeat first | exact Rem.head | apply Rem.tail) (by repeat first | exact mH | apply mT | apply mA) (by repeat first | exact mH | apply mT | apply mA) hx1) (own_keep (v := phigh.v) I (by repeat first | exact Rem.head | apply Rem.tail) (by repeat first | exact mH | apply mT | apply mA)) hx1.p hx1.q (by decide) (by decide) kV2 kB2 kW2 (pE1 _)) (fun _ _ => ?_))
    refine mv rfl (co (Ev.extract (.t rfl) rfl) (co (Ev.extract (.t rfl) rfl) (co (Ev.extract (.t rfl) rfl) (cons (alloc z60 (fun b16 => ?_))))))
    refine cons (stv ty60 (Lens.id _) (.t rfl) (.t rfl) ?_)
    refine asn rfl (asn rfl (nP (sg (mv rfl (cons (callv en15 (.cons (.t rfl) (.cons (.c (v := Go.Value.nilIface) rfl) .nil)) (fun w I => over_to x1 1130297955450880 true true w (ptsVar (by repeat first | exact mH | apply mT | apply mA) (Lens.id _) w I) (by decide +kernel)) ?_))))))
    refine mv rfl (co (Ev.extract (.t rfl) rfl) (co (Ev.extract (.t rfl) rfl) (co (Ev.extract (.t rfl) rfl) (asn rfl (asn rfl (asn rfl (nP (sg (mv rfl (co (Ev.buildS (fs := _) (places := [(0, 1), (1, 1), (2, 1)]) z65 rfl Tryz.underlying65 (by kernel_rfl) (.cons (.c (v := I 1) rfl) .nil) (Fills.cons SJob.l_in_ rfl Fills.nil)) ?_))))))))))
    refine cons (callr (X := Unit) (fun _ => True) (fun _ => .tuple #[eVerdict.val (eVerdict.zero : SVerdict), .bool false, I 160]) (r := Var x1.b eRollRoll (x1.rv 1130297955450880) 58) (r' := fun _ => Var x1.b eRollRoll (x1.rv 1130297955450880) 58) (fun _ => by repeat first | exact Upd.head | apply Upd.tail | apply Upd.right) (by repeat first | exact mH | apply mT | apply mA) en13 (.cons (.t rfl) (.cons (.c (v := Go.Value.nilIface) rfl) (.cons (.t rfl) .nil))) (fun w I => pass_nil x1 dropsL sendsL 2 2 ss1 1130297955450880 _ [] _ _ _ _ w (am w I) (roll_keep I (by repeat first | exact Rem.head | apply Rem.tail) (by repeat first | exact mH | apply mT | apply mA) (by repeat first | exact mH | apply mT | apply mA) hx1) (fun w2 _ => IsSl.nil _ w2) hx1.p hx1.q (by decide) (by decide) kV3 kB3 kW3 kE3) (fun _ _ => ?_))
    refine mv rfl (co (Ev.extract (.t rfl) rfl) (co (Ev.extract (.t rfl) rfl) (co (Ev.extract (.t rfl) rfl) (cons (alloc z60 (fun b17 => ?_))))))
    refine cons (stv ty60 (Lens.id _) (.t rfl) (.t rfl) ?_)
    refine asn rfl (asn rfl (nP (sg (co (Ev.move (.c (v := .bool true) rfl)) ?_))))
    refine cons (callg rfl rfl en10 .nil (fun hg w I => works_ok w) ?_)
    refine co (Ev.pkA (.t rfl) rfl) ?_
    refine mv rfl (cg rfl rfl (Ev.move (.t rfl)) ?_)
    refine co (Ev.pkA (.t rfl) rfl) ?_
    refine mv rfl (cg rfl rfl (Ev.move (.t rfl)) ?_)
    refine co (Ev.pkA (.t rfl) rfl) ?_
    refine mv rfl (cg rfl rfl (Ev.move (.t rfl)) ?_)
    refine cg rfl rfl (Ev.eql_i (.g rfl id) (.c (v := I 210) rfl)) ?_
    refine co (Ev.pkA (.t rfl) rfl) ?_
    refine mv rfl (cg rfl rfl (Ev.move (.t rfl)) ?_)
    refine co (Ev.pkA (.t rfl) rfl) ?_
    refine mv rfl (cg rfl rfl (Ev.move (.t rfl)) ?_)
    refine co (Ev.pkA (.t rfl) rfl) ?_
    refine mv rfl (cg rfl rfl (Ev.move (.t rfl)) ?_)
    refine cg rfl rfl (Ev.eql_i (.g rfl id) (.c (v := I 1) rfl)) ?_
    refine co (Ev.pkA (.t rfl) rfl) ?_
    refine mv rfl (cg rfl rfl (Ev.move (.t rfl)) ?_)
    refine cg rfl rfl (Ev.eql_u64 (.g rfl id) (.c (v := U64 0) rfl)) ?_
    refine co (Ev.pkA (.t rfl) rfl) ?_
    refine mv rfl (cg rfl rfl (Ev.move (.t rfl)) ?_)
    refine cg rfl rfl (Ev.eql_u64 (.g rfl id) (.c (v := U64 0) rfl)) ?_
    refine co (Ev.pkA (.t rfl) rfl) ?_
    refine mv rfl (cg rfl rfl (Ev.move (.t rfl)) ?_)
    refine co (Ev.pkA (.t rfl) rfl) ?_
    refine mv rfl (cg rfl rfl (Ev.move (.t rfl)) ?_)
    refine co (Ev.pkA (.t rfl) rfl) ?_
    refine mv rfl (cg rfl rfl (Ev.move (.t rfl)) ?_)
    refine co (Ev.pkA (.t rfl) rfl) ?_
    refine mv rfl (cg rfl rfl (Ev.move (.t rfl)) ?_)
    refine cg rfl rfl (Ev.eql_i (.g rfl id) (.c (v := I 160) rfl)) ?_
    refine co (Ev.to (v' := .bool true) (Ev.pkA (.t rfl) rfl) (rfl)) ?_
    refine asn rfl (nP (ret (done rfl (.tmp rfl .nil) (retE ?_))))
    rfl
end Go.Proofs.YtakmoeladkajdaaGreat
