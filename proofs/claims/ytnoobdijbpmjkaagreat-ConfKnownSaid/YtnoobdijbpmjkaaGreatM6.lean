/- Part. -/
import Derived.Test.YtnoobdijbpmjkaaGreatM5
set_option linter.unusedVariables false
set_option linter.unusedSimpArgs false
set_option linter.unusedSectionVars false
namespace Go.Proofs.YtnoobdijbpmjkaaGreat
open Go Go.Gx
structure SRuleRules where
  matches_ : OV
  asked : OV
def SRuleRules.to : (OV × OV) → SRuleRules := fun x => ⟨x.1, x.2⟩
def SRuleRules.of : SRuleRules → (OV × OV) := fun x => (x.matches_, x.asked)
def eRuleRules : Enc SRuleRules := isoE (prodE (ovE nilSl) (ovE nilSl)) SRuleRules.to SRuleRules.of
def SRuleRules.l_matches_ : Lens eRuleRules (ovE nilSl) 0 := lIso _ SRuleRules.to SRuleRules.of (fun _ => rfl) (lFst (ovE nilSl) (ovE nilSl))
@[simp] theorem SRuleRules.get_matches_ (x : SRuleRules) : SRuleRules.l_matches_.get x = x.matches_ := rfl
@[simp] theorem SRuleRules.set_matches_ (x : SRuleRules) (y : OV) : SRuleRules.l_matches_.set x y = { x with matches_ := y } := rfl
def SRuleRules.l_asked : Lens eRuleRules (ovE nilSl) 1 := lIso _ SRuleRules.to SRuleRules.of (fun _ => rfl) (Lens.comp (lSnd (ovE nilSl) (ovE nilSl)) (Lens.id (ovE nilSl)))
@[simp] theorem SRuleRules.get_asked (x : SRuleRules) : SRuleRules.l_asked.get x = x.asked := rfl
@[simp] theorem SRuleRules.set_asked (x : SRuleRules) (y : OV) : SRuleRules.l_asked.set x y = { x with asked := y } := rfl
def RulesAt (w : World) (b : Nat) (l : List SMatch) : Prop := ∃ (mo ao : OV) (os : List OV) (bs : Nat → Nat), PtsTo eRuleRules w b 0 ⟨mo, ao⟩ ∧ IsSl eMatch w mo.v l ∧ IsSl (ovE nilSl) w ao.v os ∧ os.length = l.length ∧ ∀ k, k < l.length → IsSl (ovE nilFn) w (os.getD k nilSl).v (clos (l.getD k eMatch.zero) (bs k)) ∧ PtsTo eMatch w (bs k) 0 (l.getD k eMatch.zero)
theorem RulesAt.keep {w w' : World} {b : Nat} {l : List SMatch} (h : RulesAt w b l) (k : Keeps Nope w w') : RulesAt w' b l := by
  obtain ⟨mo, ao, os, bs, h1, h2, h3, h4, h5⟩ := h
  exact ⟨mo, ao, os, bs, h1.keep k, h2.keep0 k, h3.keep0 k, h4, fun j hj => ⟨(h5 j hj).1.keep0 k, (h5 j hj).2.keep k⟩⟩
def compE (l : List SMatch) : Int := bif decide (256 < l.length) then 4 else bif l.all okM then 0 else 190
def ptrO (l : List SMatch) (b : Nat) : Option Addr := bif decide (compE l = 0) then some ⟨b, 0, none⟩ else none
def ptrC (l : List SMatch) (b : Nat) : Value := .pointer (ptrO l b)
theorem ptrO_ok {l : List SMatch} (b : Nat) (h : compE l = 0) : ptrO l b = some ⟨b, 0, none⟩ := by
  unfold ptrO
  simp [h]
def CompJ (l : List SMatch) (x : Nat × List Res) : Prop := compE l = 0 → ∀ w, (∀ r ∈ x.2, r.A w) → RulesAt w x.1 l
def compV (l : List SMatch) (x : Nat × List Res) : Value := .tuple #[ptrC l x.1, I (compE l)]
theorem all_snoc (l : List SMatch) (i : Int) (h0 : 0 ≤ i) (h1 : i < l.length) (ha : (l.take i.toNat).all okM = true) (hi : okM (l.getD i.toNat eMatch.zero) = true) : (l.take (i + 1).toNat).all okM = true := by
  rw [take_snoc l i h0 h1 eMatch.zero, List.all_append, ha]
  simpa using hi
theorem not_all (l : List SMatch) (i : Nat) (h1 : i < l.length) (hi : okM (l.getD i eMatch.zero) = false) : l.all okM = false := by
  rw [Bool.eq_false_iff]
  intro h
  have := List.all_eq_true.1 h _ (getD_mem l i eMatch.zero h1)
  rw [hi] at this
  cases this
theorem z191 : (Tryz.prog.info? 191).bind (·.zero) = some (eRuleRules.val eRuleRules.zero) := by kernel_rfl
theorem ty143 : TyOK Tryz.prog 143 (ovE nilSl) := TyOK.mk' zk zk
theorem zb74 : (Tryz.prog.info? 74).map (fun i => (i.zero, i.bytes)) = some (some (eMatch.val eMatch.zero), 88) := by kernel_rfl
theorem zs74 : (eMatch.val eMatch.zero).cells.size = eMatch.size := by rw [Enc.cells_val, List.size_toArray, Enc.len]
theorem ty189 : TyOK Tryz.prog 189 (ovE nilSl) := TyOK.mk' zk zk
theorem en148 : Gx.Enters Tryz.prog 148 := Gx.Enters.mk' zk
theorem ty192 : TyOK Tryz.prog 192 (ovE nilSl) := TyOK.mk' zk zk
theorem z192 : (Tryz.prog.info? 192).bind (·.zero) = some ((ovE nilSl).val (ovE nilSl).zero) := by kernel_rfl
theorem zb192 : (Tryz.prog.info? 192).map (fun i => (i.zero, i.bytes)) = some (some ((ovE nilSl).val (ovE nilSl).zero), 24) := by kernel_rfl
theorem zs192 : ((ovE nilSl).val (ovE nilSl).zero).cells.size = (ovE nilSl).size := by rw [Enc.cells_val, List.size_toArray, Enc.len]
theorem compile_ok (u : Value) (l : List SMatch) (w : World) (hl : IsSl eMatch w u l) : Calls Tryz.prog 94 #[u] w (RetN w (CompJ l) (compV l) (fun x => x.2)) := by
  have hle := hl.le
  refine en0 47 Tryz.func94 ?_
  refine sg (co (Ev.assign (.c (v := (Go.Value.pointer none)) rfl)) ?_)
  refine co (Ev.assign (.c (v := I 0) rfl)) ?_
  refine nP (seq (sg (mv rfl (co (Ev.len Tryz.underlying143 (.t rfl) zf) ?_))))
  refine co (Ev.gtr_i (.t rfl) (.c (v := I 256) rfl)) ?_
  refine nP ?_
  first | refine condD rfl (fun hbig => ?_) (fun hsmall => ?_) | refine cond rfl (fun hbig => ?_) (fun hsmall => ?_)
  · try simp only [nb] at hbig
    refine sg (co (Ev.assign (.c (v := (Go.Value.pointer none)) rfl)) ?_)
    refine co (Ev.assign (.c (v := I 4) rfl)) ?_
    refine nP (ret (pR (done rfl (.tmp rfl (.tmp rfl .nil)) (fun w I => ?_))))
    have hc : compE l = 4 := by unfold compE; rw [decide_eq_true (by omega)]; rfl
    exact retN (0, []) (fun h => by rw [hc] at h; cases h) (by unfold compV ptrC ptrO; rw [hc]; rfl) (List.nil_sublist _) w I
  · try simp only [nb] at hsmall
    refine skip (pN (sg (co (Ev.buildS (fs := _) (places := [(0, 1), (1, 1)]) z191 rfl Tryz.underlying191 zk .nil Fills.nil) ?_)))
    refine cons (box (E := eRuleRules) (.t rfl) (fun b1 => ?_))
    refine asn rfl (nP (seq (sg (mv rfl (co (Ev.len Tryz.underlying143 (.t rfl) zf) ?_)))))
    refine co (Ev.move (.c (v := I 0) rfl)) ?_
    refine nP (block (takeNil (ovE nilSl) 192 ?_))
    refine takeNil eMatch 74 ?_
    refine lp (X := Int × OV × OV × (List OV) × (List Res) × (Nat → Nat)) (fun x : Int × OV × OV × (List OV) × (List Res) × (Nat → Nat) => (0 ≤ x.1 ∧ x.1 ≤ l.length) ∧ ((x.2.2.2.1.length : Int) = x.1) ∧ ((l.take x.1.toNat).all okM = true) ∧ (∀ w1 : World, (∀ r ∈ x.2.2.2.2.1, r.A w1) → ∀ q : Nat, (q : Int) < x.1 → IsSl (ovE nilFn) w1 (x.2.2.2.1.getD q nilSl).v (clos (l.getD q eMatch.zero) (x.2.2.2.2.2 q)) ∧ PtsTo eMatch w1 (x.2.2.2.2.2 q) 0 (l.getD q eMatch.zero))) (fun x : Int × OV × OV × (List OV) × (List Res) × (Nat → Nat) => [(4, true, .pointer (some ⟨b1, 0, none⟩)), (13, true, u), (14, true, I l.length), (15, true, I x.1)]) (fun x : Int × OV × OV × (List OV) × (List Res) × (Nat → Nat) => (x.2.2.2.2.1 ++ [OwnS x.2.1.v eMatch (l.take x.1.toNat) 74, OwnS x.2.2.1.v (ovE nilSl) x.2.2.2.1 192, Var b1 eRuleRules ⟨x.2.1, x.2.2.1⟩ 191])) (fun x : Int × OV × OV × (List OV) × (List Res) × (Nat → Nat) => (l.length - x.1).toNat) (0, nilSl, nilSl, [], [], fun _ => 0) ⟨?_, ?_, ?_, ?_⟩ (fun x hx => ?_)
    · omega
    · rfl
    · rfl
    · intro w1 _ q hq; exact absurd hq (by show ¬ (q : Int) < 0; omega)
    obtain ⟨i, mo, ao, os, Rs, bs⟩ := x
    obtain ⟨hi, hos, hok, hR⟩ : (0 ≤ i ∧ i ≤ l.length) ∧ ((os.length : Int) = i) ∧ ((l.take i.toNat).all okM = true) ∧ (∀ w1 : World, (∀ r ∈ Rs, r.A w1) → ∀ q : Nat, (q : Int) < i → IsSl (ovE nilFn) w1 (os.getD q nilSl).v (clos (l.getD q eMatch.zero) (bs q)) ∧ PtsTo eMatch w1 (bs q) 0 (l.getD q eMatch.zero)) := hx
    show Sat _ _ [(4, true, .pointer (some ⟨b1, 0, none⟩)), (13, true, u), (14, true, I l.length), (15, true, I i)] (Rs ++ [OwnS mo.v eMatch (l.take i.toNat) 74, OwnS ao.v (ovE nilSl) os 192, Var b1 eRuleRules ⟨mo, ao⟩ 191])
    refine sg (co (Ev.lss_i (.t rfl) (.t rfl)) ?_)
    refine nP (seq ?_)
    first | refine condD rfl (fun hlt => ?_) (fun hge => ?_) | refine cond rfl (fun hlt => ?_) (fun hge => ?_)
    · try simp only [nb] at hlt
      refine skip (pN (seq (block (sg (co (Ev.indexAddr Tryz.underlying143 ty74 (.t rfl) (.t rfl) zf (fun _ => zo)) ?_)))))
      refine co (Ev.loadS0 ty74 (.t rfl) zf (fun _ => zo)) ?_
      refine cons (alloc z74 (fun b2 => ?_))
      refine cons (stv ty74 (Lens.id _) (.t rfl) (.t rfl) ?_)
      refine nP (seq (sg (co (Ev.ldv ty74 (.t rfl) (Lens.id _)) ?_)))
      refine cons (callv en117 (.cons (.t rfl) .nil) (fun w I => check_ok _ w) ?_)
      refine asn rfl (nP (sg (mv rfl (co (Ev.neq_i (.t rfl) (.c (v := I 0) rfl)) ?_))))
      refine nP ?_
      first | refine condD rfl (fun h2 => ?_) (fun h2 => ?_) | refine cond rfl (fun h2 => ?_) (fun h2 => ?_)
      · have hbad : okM (l.getD i.toNat eMatch.zero) = false := by
          have h3 : decide (ckM (l.getD i.toNat eMatch.zero) = 0) = false := by simpa using h2
          rwa [ckM_zero] at h3
        refine sg (mv rfl (co (Ev.assign (.c (v := (Go.Value.pointer none)) rfl)) ?_))
        refine asn rfl (nP (ret (pR (bR (pR (pR (bR (pR (done rfl (.tmp rfl (.tmp rfl .nil)) (fun w I => ?_))))))))))
        have hc : compE l = 190 := by unfold compE; rw [decide_eq_false (by omega), not_all l i.toNat (by omega) hbad]; rfl
        exact retN (0, []) (fun h => by rw [hc] at h; cases h) (by unfold compV ptrC ptrO; rw [hc]; show tupV [.pointer none, Go.Gx.I (ckM (l.getD i.toNat eMatch.zero))] = _; unfold ckM; rw [hbad]; rfl) (List.nil_sublist _) w I
      · have hokm : okM (l.getD i.toNat eMatch.zero) = true := by
          have h3 : decide (ckM (l.getD i.toNat eMatch.zero) = 0) = true := by simpa using h2
          rwa [ckM_zero] at h3
        refine skip (pN (seq (draw [Var b2 eMatch (l.getD i.toNat eMatch.zero) 74] zk ?_)))
        refine tk 0 rfl (Ev.move (.t rfl)) ?_
        refine tk 1 rfl (Ev.move (.t rfl)) ?_
        refine tk 2 rfl (Ev.nilCheck (.t rfl)) ?_
        refine tk 3 rfl (fA 0 (.t rfl)) ?_
        refine tk 5 rfl (Ev.ldv ty74 (.t rfl) (Lens.id _)) ?_
        refine all [4, 6] zk (by decide) (.cons rfl ?_ (.cons rfl ?_ .nil))
        · refine (opv (Ev.ldv ty143 (.t rfl) SRuleRules.l_matches_) ?_)
          refine hdn (al1 6 rfl ((buildSlice (E := eMatch) Tryz.underlying143 ty74 z74 (.cons (.t rfl) .nil) rfl rfl (fun v3 => ?_))))
          refine hdn (al1 7 rfl ((app (E := eMatch) Tryz.underlying143 ty74 zb74 zs74 (.t rfl) (.t rfl) (fun v4 => ?_) (hby := ⟨by (show _ ≤ 9223372036854775807); first | omega | (simp; done) | (simp; omega), by first | omega | (simp; done) | (simp; omega)⟩))))
          refine hdn (tk 8 rfl (Ev.nilCheck (.t rfl)) ?_)
          refine tk 9 rfl (fA 0 (.t rfl)) ?_
          refine al1 10 rfl ((stv ty143 SRuleRules.l_matches_ (.t rfl) (.t rfl) ?_))
          refine hdn (ovr (pN (draw [Var b2 eMatch (l.getD i.toNat eMatch.zero) 74] zk ?_)))
          refine tk 0 rfl (Ev.move (.t rfl)) ?_
          refine tk 1 rfl (Ev.move (.t rfl)) ?_
          refine tk 2 rfl (Ev.nilCheck (.t rfl)) ?_
          refine tk 3 rfl (fA 1 (.t rfl)) ?_
          refine tk 5 rfl (Ev.ldv ty74 (.t rfl) (Lens.id _)) ?_
          refine all [4, 6] zk (by decide) (.cons rfl ?_ (.cons rfl ?_ .nil))
          · refine (opv (Ev.ldv ty189 (.t rfl) SRuleRules.l_asked) ?_)
            refine hdn (al1 6 rfl ((calln (X := OV × Nat) (fun _ => True) (fun x => x.1.v) (fun x => [OwnS x.1.v (ovE nilFn) (clos (l.getD i.toNat eMatch.zero) x.2) 249, Var x.2 eMatch (l.getD i.toNat eMatch.zero) 74]) en148 (.cons (.t rfl) .nil) (fun w I => compiled_ok _ w) (fun x1 _ => ?_))))
            refine hdn (al1 7 rfl ((buildSlice (E := (ovE nilSl)) Tryz.underlying189 ty192 z192 (.cons (.t rfl) .nil) rfl rfl (fun v5 => ?_))))
            refine hdn (al1 8 rfl ((app (E := (ovE nilSl)) Tryz.underlying189 ty192 zb192 zs192 (.t rfl) (.t rfl) (fun v6 => ?_) (hby := ⟨by (show _ ≤ 9223372036854775807); first | omega | (simp; done) | (simp; omega), by first | omega | (simp; done) | (simp; omega)⟩))))
            refine hdn (tk 9 rfl (Ev.nilCheck (.t rfl)) ?_)
            refine tk 10 rfl (fA 1 (.t rfl)) ?_
            refine al1 11 rfl ((stv ty189 SRuleRules.l_asked (.t rfl) (.t rfl) ?_))
            refine hdn (ovr (bN (pN (region (co (Ev.add_i (.t rfl) (.c (v := I 1) rfl) (fun _ => zo)) ?_)))))
            refine mv rfl (nP (nx (X := Int × OV × OV × (List OV) × (List Res) × (Nat → Nat)) (i + 1, _, _, os ++ [x1.1], OwnS x1.1.v (ovE nilFn) (clos (l.getD i.toNat eMatch.zero) x1.2) 249 :: Var x1.2 eMatch (l.getD i.toNat eMatch.zero) 74 :: Rs, fun q => if q = i.toNat then x1.2 else bs q) ⟨?_, ?_, ?_, ?_⟩ ?_ (hL := (by dsimp only; rw [take_snoc l i hi.1 (by omega) eMatch.zero]; repeat first | exact List.Sublist.refl _ | apply List.Sublist.cons_cons | apply List.Sublist.cons))))
            · try dsimp only
              omega
            · try dsimp only
              simp; omega
            · try dsimp only
              exact all_snoc l i hi.1 (by omega) hok hokm
            · try dsimp only
              intro w1 hw q hq
              by_cases e : q = i.toNat
              · subst e
                have e1 : (os ++ [x1.1]).getD i.toNat nilSl = x1.1 := by
                  have : os.length = i.toNat := by omega
                  simp [List.getD, ← this]
                rw [if_pos rfl]
                show IsSl _ _ ((os ++ [x1.1]).getD i.toNat nilSl).v _ ∧ _
                rw [e1]
                exact ⟨IsSl.of_own (hw _ List.mem_cons_self), pts_of_block (hw _ (List.mem_cons_of_mem _ List.mem_cons_self))⟩
              · have e1 : (os ++ [x1.1]).getD q nilSl = os.getD q nilSl := by
                  have : q < os.length := by omega
                  simp [List.getD, List.getElem?_append, this]
                rw [if_neg e]
                show IsSl _ _ ((os ++ [x1.1]).getD q nilSl).v _ ∧ _
                rw [e1]
                exact hR w1 (fun r hr => hw r (List.mem_cons_of_mem _ (List.mem_cons_of_mem _ hr))) q (by omega)
            · try dsimp only
              omega
          · refine (calln (X := OV × Nat) (fun _ => True) (fun x => x.1.v) (fun x => [OwnS x.1.v (ovE nilFn) (clos (l.getD i.toNat eMatch.zero) x.2) 249, Var x.2 eMatch (l.getD i.toNat eMatch.zero) 74]) en148 (.cons (.t rfl) .nil) (fun w I => compiled_ok _ w) (fun x1 _ => ?_))
            refine hdn (all [4, 7] zk (by decide) (.cons rfl ?_ (.cons rfl ?_ .nil)))
            · refine (opv (Ev.ldv ty189 (.t rfl) SRuleRules.l_asked) ?_)
              refine hdn (al1 7 rfl ((buildSlice (E := (ovE nilSl)) Tryz.underlying189 ty192 z192 (.cons (.t rfl) .nil) rfl rfl (fun v7 => ?_))))
              refine hdn (al1 8 rfl ((app (E := (ovE nilSl)) Tryz.underlying189 ty192 zb192 zs192 (.t rfl) (.t rfl) (fun v8 => ?_) (hby := ⟨by (show _ ≤ 9223372036854775807); first | omega | (simp; done) | (simp; omega), by first | omega | (simp; done) | (simp; omega)⟩))))
              refine hdn (tk 9 rfl (Ev.nilCheck (.t rfl)) ?_)
              refine tk 10 rfl (fA 1 (.t rfl)) ?_
              refine al1 11 rfl ((stv ty189 SRuleRules.l_asked (.t rfl) (.t rfl) ?_))
              refine hdn (ovr (bN (pN (region (co (Ev.add_i (.t rfl) (.c (v := I 1) rfl) (fun _ => zo)) ?_)))))
              refine mv rfl (nP (nx (X := Int × OV × OV × (List OV) × (List Res) × (Nat → Nat)) (i + 1, _, _, os ++ [x1.1], OwnS x1.1.v (ovE nilFn) (clos (l.getD i.toNat eMatch.zero) x1.2) 249 :: Var x1.2 eMatch (l.getD i.toNat eMatch.zero) 74 :: Rs, fun q => if q = i.toNat then x1.2 else bs q) ⟨?_, ?_, ?_, ?_⟩ ?_ (hL := (by dsimp only; rw [take_snoc l i hi.1 (by omega) eMatch.zero]; repeat first | exact List.Sublist.refl _ | apply List.Sublist.cons_cons | apply List.Sublist.cons))))
              · try dsimp only
                omega
              · try dsimp only
                simp; omega
              · try dsimp only
                exact all_snoc l i hi.1 (by omega) hok hokm
              · try dsimp only
                intro w1 hw q hq
                by_cases e : q = i.toNat
                · subst e
                  have e1 : (os ++ [x1.1]).getD i.toNat nilSl = x1.1 := by
                    have : os.length = i.toNat := by omega
                    simp [List.getD, ← this]
                  rw [if_pos rfl]
                  show IsSl _ _ ((os ++ [x1.1]).getD i.toNat nilSl).v _ ∧ _
                  rw [e1]
                  exact ⟨IsSl.of_own (hw _ List.mem_cons_self), pts_of_block (hw _ (List.mem_cons_of_mem _ List.mem_cons_self))⟩
                · have e1 : (os ++ [x1.1]).getD q nilSl = os.getD q nilSl := by
                    have : q < os.length := by omega
                    simp [List.getD, List.getElem?_append, this]
                  rw [if_neg e]
                  show IsSl _ _ ((os ++ [x1.1]).getD q nilSl).v _ ∧ _
                  rw [e1]
                  exact hR w1 (fun r hr => hw r (List.mem_cons_of_mem _ (List.mem_cons_of_mem _ hr))) q (by omega)
              · try dsimp only
                omega
            · refine (buildSlice (E := (ovE nilSl)) Tryz.underlying189 ty192 z192 (.cons (.t rfl) .nil) rfl rfl (fun v9 => ?_))
              refine hdn (al1 4 rfl ((opv (Ev.ldv ty189 (.t rfl) SRuleRules.l_asked) ?_)))
              refine hdn (al1 8 rfl ((app (E := (ovE nilSl)) Tryz.underlying189 ty192 zb192 zs192 (.t rfl) (.t rfl) (fun v10 => ?_) (hby := ⟨by (show _ ≤ 9223372036854775807); first | omega | (simp; done) | (simp; omega), by first | omega | (simp; done) | (simp; omega)⟩))))
              refine hdn (tk 9 rfl (Ev.nilCheck (.t rfl)) ?_)
              refine tk 10 rfl (fA 1 (.t rfl)) ?_
              refine al1 11 rfl ((stv ty189 SRuleRules.l_asked (.t rfl) (.t rfl) ?_))
              refine hdn (ovr (bN (pN (region (co (Ev.add_i (.t rfl) (.c (v := I 1) rfl) (fun _ => zo)) ?_)))))
              refine mv rfl (nP (nx (X := Int × OV × OV × (List OV) × (List Res) × (Nat → Nat)) (i + 1, _, _, os ++ [x1.1], OwnS x1.1.v (ovE nilFn) (clos (l.getD i.toNat eMatch.zero) x1.2) 249 :: Var x1.2 eMatch (l.getD i.toNat eMatch.zero) 74 :: Rs, fun q => if q = i.toNat then x1.2 else bs q) ⟨?_, ?_, ?_, ?_⟩ ?_ (hL := (by dsimp only; rw [take_snoc l i hi.1 (by omega) eMatch.zero]; repeat first | exact List.Sublist.refl _ | apply List.Sublist.cons_cons | apply List.Sublist.cons))))
              · try dsimp only
                omega
              · try dsimp only
                simp; omega
              · try dsimp only
                exact all_snoc l i hi.1 (by omega) hok hokm
              · try dsimp only
                intro w1 hw q hq
                by_cases e : q = i.toNat
                · subst e
                  have e1 : (os ++ [x1.1]).getD i.toNat nilSl = x1.1 := by
                    have : os.length = i.toNat := by omega
                    simp [List.getD, ← this]
                  rw [if_pos rfl]
                  show IsSl _ _ ((os ++ [x1.1]).getD i.toNat nilSl).v _ ∧ _
                  rw [e1]
                  exact ⟨IsSl.of_own (hw _ List.mem_cons_self), pts_of_block (hw _ (List.mem_cons_of_mem _ List.mem_cons_self))⟩
                · have e1 : (os ++ [x1.1]).getD q nilSl = os.getD q nilSl := by
                    have : q < os.length := by omega
                    simp [List.getD, List.getElem?_append, this]
                  rw [if_neg e]
                  show IsSl _ _ ((os ++ [x1.1]).getD q nilSl).v _ ∧ _
                  rw [e1]
                  exact hR w1 (fun r hr => hw r (List.mem_cons_of_mem _ (List.mem_cons_of_mem _ hr))) q (by omega)
              · try dsimp only
                omega
        · refine (buildSlice (E := eMatch) Tryz.underlying143 ty74 z74 (.cons (.t rfl) .nil) rfl rfl (fun v11 => ?_))
          refine hdn (al1 4 rfl ((opv (Ev.ldv ty143 (.t rfl) SRuleRules.l_matches_) ?_)))
          refine hdn (al1 7 rfl ((app (E := eMatch) Tryz.underlying143 ty74 zb74 zs74 (.t rfl) (.t rfl) (fun v12 => ?_) (hby := ⟨by (show _ ≤ 9223372036854775807); first | omega | (simp; done) | (simp; omega), by first | omega | (simp; done) | (simp; omega)⟩))))
          refine hdn (tk 8 rfl (Ev.nilCheck (.t rfl)) ?_)
          refine tk 9 rfl (fA 0 (.t rfl)) ?_
          refine al1 10 rfl ((stv ty143 SRuleRules.l_matches_ (.t rfl) (.t rfl) ?_))
          refine hdn (ovr (pN (draw [Var b2 eMatch (l.getD i.toNat eMatch.zero) 74] zk ?_)))
          refine tk 0 rfl (Ev.move (.t rfl)) ?_
          refine tk 1 rfl (Ev.move (.t rfl)) ?_
          refine tk 2 rfl (Ev.nilCheck (.t rfl)) ?_
          refine tk 3 rfl (fA 1 (.t rfl)) ?_
          refine tk 5 rfl (Ev.ldv ty74 (.t rfl) (Lens.id _)) ?_
          refine all [4, 6] zk (by decide) (.cons rfl ?_ (.cons rfl ?_ .nil))
          · refine (opv (Ev.ldv ty189 (.t rfl) SRuleRules.l_asked) ?_)
            refine hdn (al1 6 rfl ((calln (X := OV × Nat) (fun _ => True) (fun x => x.1.v) (fun x => [OwnS x.1.v (ovE nilFn) (clos (l.getD i.toNat eMatch.zero) x.2) 249, Var x.2 eMatch (l.getD i.toNat eMatch.zero) 74]) en148 (.cons (.t rfl) .nil) (fun w I => compiled_ok _ w) (fun x1 _ => ?_))))
            refine hdn (al1 7 rfl ((buildSlice (E := (ovE nilSl)) Tryz.underlying189 ty192 z192 (.cons (.t rfl) .nil) rfl rfl (fun v13 => ?_))))
            refine hdn (al1 8 rfl ((app (E := (ovE nilSl)) Tryz.underlying189 ty192 zb192 zs192 (.t rfl) (.t rfl) (fun v14 => ?_) (hby := ⟨by (show _ ≤ 9223372036854775807); first | omega | (simp; done) | (simp; omega), by first | omega | (simp; done) | (simp; omega)⟩))))
            refine hdn (tk 9 rfl (Ev.nilCheck (.t rfl)) ?_)
            refine tk 10 rfl (fA 1 (.t rfl)) ?_
            refine al1 11 rfl ((stv ty189 SRuleRules.l_asked (.t rfl) (.t rfl) ?_))
            refine hdn (ovr (bN (pN (region (co (Ev.add_i (.t rfl) (.c (v := I 1) rfl) (fun _ => zo)) ?_)))))
            refine mv rfl (nP (nx (X := Int × OV × OV × (List OV) × (List Res) × (Nat → Nat)) (i + 1, _, _, os ++ [x1.1], OwnS x1.1.v (ovE nilFn) (clos (l.getD i.toNat eMatch.zero) x1.2) 249 :: Var x1.2 eMatch (l.getD i.toNat eMatch.zero) 74 :: Rs, fun q => if q = i.toNat then x1.2 else bs q) ⟨?_, ?_, ?_, ?_⟩ ?_ (hL := (by dsimp only; rw [take_snoc l i hi.1 (by omega) eMatch.zero]; repeat first | exact List.Sublist.refl _ | apply List.Sublist.cons_cons | apply List.Sublist.cons))))
            · try dsimp only
              omega
            · try dsimp only
              simp; omega
            · try dsimp only
              exact all_snoc l i hi.1 (by omega) hok hokm
            · try dsimp only
              intro w1 hw q hq
              by_cases e : q = i.toNat
              · subst e
                have e1 : (os ++ [x1.1]).getD i.toNat nilSl = x1.1 := by
                  have : os.length = i.toNat := by omega
                  simp [List.getD, ← this]
                rw [if_pos rfl]
                show IsSl _ _ ((os ++ [x1.1]).getD i.toNat nilSl).v _ ∧ _
                rw [e1]
                exact ⟨IsSl.of_own (hw _ List.mem_cons_self), pts_of_block (hw _ (List.mem_cons_of_mem _ List.mem_cons_self))⟩
              · have e1 : (os ++ [x1.1]).getD q nilSl = os.getD q nilSl := by
                  have : q < os.length := by omega
                  simp [List.getD, List.getElem?_append, this]
                rw [if_neg e]
                show IsSl _ _ ((os ++ [x1.1]).getD q nilSl).v _ ∧ _
                rw [e1]
                exact hR w1 (fun r hr => hw r (List.mem_cons_of_mem _ (List.mem_cons_of_mem _ hr))) q (by omega)
            · try dsimp only
              omega
          · refine (calln (X := OV × Nat) (fun _ => True) (fun x => x.1.v) (fun x => [OwnS x.1.v (ovE nilFn) (clos (l.getD i.toNat eMatch.zero) x.2) 249, Var x.2 eMatch (l.getD i.toNat eMatch.zero) 74]) en148 (.cons (.t rfl) .nil) (fun w I => compiled_ok _ w) (fun x1 _ => ?_))
            refine hdn (all [4, 7] zk (by decide) (.cons rfl ?_ (.cons rfl ?_ .nil)))
            · refine (opv (Ev.ldv ty189 (.t rfl) SRuleRules.l_asked) ?_)
              refine hdn (al1 7 rfl ((buildSlice (E := (ovE nilSl)) Tryz.underlying189 ty192 z192 (.cons (.t rfl) .nil) rfl rfl (fun v15 => ?_))))
              refine hdn (al1 8 rfl ((app (E := (ovE nilSl)) Tryz.underlying189 ty192 zb192 zs192 (.t rfl) (.t rfl) (fun v16 => ?_) (hby := ⟨by (show _ ≤ 9223372036854775807); first | omega | (simp; done) | (simp; omega), by first | omega | (simp; done) | (simp; omega)⟩))))
              refine hdn (tk 9 rfl (Ev.nilCheck (.t rfl)) ?_)
              refine tk 10 rfl (fA 1 (.t rfl)) ?_
              refine al1 11 rfl ((stv ty189 SRuleRules.l_asked (.t rfl) (.t rfl) ?_))
              refine hdn (ovr (bN (pN (region (co (Ev.add_i (.t rfl) (.c (v := I 1) rfl) (fun _ => zo)) ?_)))))
              refine mv rfl (nP (nx (X := Int × OV × OV × (List OV) × (List Res) × (Nat → Nat)) (i + 1, _, _, os ++ [x1.1], OwnS x1.1.v (ovE nilFn) (clos (l.getD i.toNat eMatch.zero) x1.2) 249 :: Var x1.2 eMatch (l.getD i.toNat eMatch.zero) 74 :: Rs, fun q => if q = i.toNat then x1.2 else bs q) ⟨?_, ?_, ?_, ?_⟩ ?_ (hL := (by dsimp only; rw [take_snoc l i hi.1 (by omega) eMatch.zero]; repeat first | exact List.Sublist.refl _ | apply List.Sublist.cons_cons | apply List.Sublist.cons))))
              · try dsimp only
                omega
              · try dsimp only
                simp; omega
              · try dsimp only
                exact all_snoc l i hi.1 (by omega) hok hokm
              · try dsimp only
                intro w1 hw q hq
                by_cases e : q = i.toNat
                · subst e
                  have e1 : (os ++ [x1.1]).getD i.toNat nilSl = x1.1 := by
                    have : os.length = i.toNat := by omega
                    simp [List.getD, ← this]
                  rw [if_pos rfl]
                  show IsSl _ _ ((os ++ [x1.1]).getD i.toNat nilSl).v _ ∧ _
                  rw [e1]
                  exact ⟨IsSl.of_own (hw _ List.mem_cons_self), pts_of_block (hw _ (List.mem_cons_of_mem _ List.mem_cons_self))⟩
                · have e1 : (os ++ [x1.1]).getD q nilSl = os.getD q nilSl := by
                    have : q < os.length := by omega
                    simp [List.getD, List.getElem?_append, this]
                  rw [if_neg e]
                  show IsSl _ _ ((os ++ [x1.1]).getD q nilSl).v _ ∧ _
                  rw [e1]
                  exact hR w1 (fun r hr => hw r (List.mem_cons_of_mem _ (List.mem_cons_of_mem _ hr))) q (by omega)
              · try dsimp only
                omega
            · refine (buildSlice (E := (ovE nilSl)) Tryz.underlying189 ty192 z192 (.cons (.t rfl) .nil) rfl rfl (fun v17 => ?_))
              refine hdn (al1 4 rfl ((opv (Ev.ldv ty189 (.t rfl) SRuleRules.l_asked) ?_)))
              refine hdn (al1 8 rfl ((app (E := (ovE nilSl)) Tryz.underlying189 ty192 zb192 zs192 (.t rfl) (.t rfl) (fun v18 => ?_) (hby := ⟨by (show _ ≤ 9223372036854775807); first | omega | (simp; done) | (simp; omega), by first | omega | (simp; done) | (simp; omega)⟩))))
              refine hdn (tk 9 rfl (Ev.nilCheck (.t rfl)) ?_)
              refine tk 10 rfl (fA 1 (.t rfl)) ?_
              refine al1 11 rfl ((stv ty189 SRuleRules.l_asked (.t rfl) (.t rfl) ?_))
              refine hdn (ovr (bN (pN (region (co (Ev.add_i (.t rfl) (.c (v := I 1) rfl) (fun _ => zo)) ?_)))))
              refine mv rfl (nP (nx (X := Int × OV × OV × (List OV) × (List Res) × (Nat → Nat)) (i + 1, _, _, os ++ [x1.1], OwnS x1.1.v (ovE nilFn) (clos (l.getD i.toNat eMatch.zero) x1.2) 249 :: Var x1.2 eMatch (l.getD i.toNat eMatch.zero) 74 :: Rs, fun q => if q = i.toNat then x1.2 else bs q) ⟨?_, ?_, ?_, ?_⟩ ?_ (hL := (by dsimp only; rw [take_snoc l i hi.1 (by omega) eMatch.zero]; repeat first | exact List.Sublist.refl _ | apply List.Sublist.cons_cons | apply List.Sublist.cons))))
              · try dsimp only
                omega
              · try dsimp only
                simp; omega
              · try dsimp only
                exact all_snoc l i hi.1 (by omega) hok hokm
              · try dsimp only
                intro w1 hw q hq
                by_cases e : q = i.toNat
                · subst e
                  have e1 : (os ++ [x1.1]).getD i.toNat nilSl = x1.1 := by
                    have : os.length = i.toNat := by omega
                    simp [List.getD, ← this]
                  rw [if_pos rfl]
                  show IsSl _ _ ((os ++ [x1.1]).getD i.toNat nilSl).v _ ∧ _
                  rw [e1]
                  exact ⟨IsSl.of_own (hw _ List.mem_cons_self), pts_of_block (hw _ (List.mem_cons_of_mem _ List.mem_cons_self))⟩
                · have e1 : (os ++ [x1.1]).getD q nilSl = os.getD q nilSl := by
                    have : q < os.length := by omega
                    simp [List.getD, List.getElem?_append, this]
                  rw [if_neg e]
                  show IsSl _ _ ((os ++ [x1.1]).getD q nilSl).v _ ∧ _
                  rw [e1]
                  exact hR w1 (fun r hr => hw r (List.mem_cons_of_mem _ (List.mem_cons_of_mem _ hr))) q (by omega)
              · try dsimp only
                omega
    · try simp only [nb] at hge
      refine exit (pX (pX (bX (pN (sg (mv rfl (asn rfl (co (Ev.assign (.c (v := I 0) rfl)) ?_))))))))
      refine nP (ret (done rfl (.tmp rfl (.tmp rfl .nil)) (fun w I => ?_)))
      have et : l.take i.toNat = l := List.take_of_length_le (by omega)
      rw [et] at hok I
      have hc : compE l = 0 := by unfold compE; rw [decide_eq_false (by omega), hok]; rfl
      refine retN (b1, Rs ++ [OwnS mo.v eMatch l 74, OwnS ao.v (ovE nilSl) os 192, Var b1 eRuleRules ⟨mo, ao⟩ 191]) (fun _ w1 hw => ?_) (by unfold compV ptrC ptrO; rw [hc]; rfl) (List.Sublist.refl _) w I
      refine ⟨mo, ao, os, bs, pts_of_block (hw _ (List.mem_append_right _ (List.mem_cons_of_mem _ (List.mem_cons_of_mem _ List.mem_cons_self)))), IsSl.of_own (hw _ (List.mem_append_right _ List.mem_cons_self)), IsSl.of_own (hw _ (List.mem_append_right _ (List.mem_cons_of_mem _ List.mem_cons_self))), by omega, fun q hq => hR w1 (fun r hr => hw r (List.mem_append_left _ hr)) q (by omega)⟩
def firstF (q : SMatch → Bool) : List SMatch → Int → Int
  | [], _ => -1
  | m :: l, k => bif q m then k else firstF q l (k + 1)
theorem getD_take' {α : Type} (l : List α) (m i : Nat) (d : α) (h : i < m) : (l.take m).getD i d = l.getD i d := by simp [List.getD, List.getElem?_take, h]
def deadAt (l : List SMatch) (k : Nat) : Bool := (l.take k).any fun m => coversM m (l.getD k eMatch.zero)
def deadT (l : List SMatch) (n : Nat) : List Int := ((List.range n).filter (deadAt l)).map fun k : Nat => (k : Int)
def deadB (l : List SMatch) : List Int := deadT l l.length
theorem deadT_step (l : List SMatch) (n : Nat) : deadT l (n + 1) = bif deadAt l n then deadT l n ++ [(n : Int)] else deadT l n := by
  unfold deadT
  rw [List.range_succ, List.filter_append]
  cases h : deadAt l n <;> simp [h]
theorem deadT_len (l : List SMatch) (n : Nat) : (deadT l n).length ≤ n := by
  unfold deadT
  rw [List.length_map]
  exact Nat.le_trans (List.length_filter_le _ _) (by simp)
theorem deadAt_yes (l : List SMatch) (i j : Nat) (hi : i < l.length) (hj : j < i) (h : coversM (l.getD j eMatch.zero) (l.getD i eMatch.zero) = true) : deadAt l i = true := by
  unfold deadAt
  rw [List.any_eq_true]
  refine ⟨l.getD j eMatch.zero, ?_, h⟩
  have e := getD_take' l i j eMatch.zero hj
  rw [← e]
  exact getD_mem _ _ _ (by simp; omega)
theorem deadAt_no (l : List SMatch) (i : Nat) (hi : i ≤ l.length) (h : ∀ q : Nat, (q : Int) < i → coversM (l.getD q eMatch.zero) (l.getD i eMatch.zero) = false) : deadAt l i = false := by
  rw [Bool.eq_false_iff]
  intro ht
  unfold deadAt at ht
  obtain ⟨m, hm, hc⟩ := List.any_eq_true.1 ht
  obtain ⟨q, hq, rfl⟩ := List.mem_iff_getElem.1 hm
  have hq2 : q < i := by simp at hq; omega
  have e : (l.take i)[q] = l.getD q eMatch.zero := by
    have : q < l.length := by omega
    simp [List.getD, this]
  rw [e, h q (by omega)] at hc
  cases hc
theorem en149 : Gx.Enters Tryz.prog 149 := Gx.Enters.mk' zk
theorem dead_ok (b : Nat) (l : List SMatch) (w : World) (hR : RulesAt w b l) (hll : l.length ≤ 256) : Calls Tryz.prog 102 #[.pointer (some ⟨b, 0, none⟩)] w (RetO w iE (deadB l) 3) := by
  obtain ⟨mo, ao, os, bs, hr, hmo, hao, hol, hcl⟩ := hR
  have hml := hmo.le
  have hal := hao.le
  refine en0 41 Tryz.func102 ?_
  refine sg (co (Ev.assign (.c (v := (Go.Value.slice none 0 0)) rfl)) ?_)
  refine nP (seq (sg (mv rfl (co (Ev.eql_p Tryz.underlying144 (.t rfl) (.c rfl)) ?_))))
  refine nP (condF rfl (rfl) ?_)
  refine skip (pN (sg (co (Ev.assign (.c (v := (Go.Value.slice none 0 0)) rfl)) ?_)))
  refine takeNil iE 3 ?_
  refine nP (seq (sg (mv rfl (co (Ev.nilCheck (.t rfl)) ?_))))
  refine co (fA 0 (.t rfl)) ?_
  refine co (Ev.load ty143 (.t rfl) (ptsL (fun w I => hr.keep I.keeps) SRuleRules.l_matches_)) ?_
  refine co (Ev.len Tryz.underlying143 (.t rfl) (fun w I => hmo.keep0 I.keeps)) ?_
  refine co (Ev.move (.c (v := I 0) rfl)) ?_
  refine nP (block (lp (X := Int × OV × (List Int)) (fun x : Int × OV × (List Int) => (0 ≤ x.1 ∧ x.1 ≤ l.length) ∧ (x.2.2 = deadT l x.1.toNat)) (fun x : Int × OV × (List Int) => [(0, true, .pointer (some ⟨b, 0, none⟩)), (3, true, x.2.1.v), (13, true, mo.v), (14, true, I l.length), (15, true, I x.1)]) (fun x : Int × OV × (List Int) => [OwnS x.2.1.v iE x.2.2 3]) (fun x : Int × OV × (List Int) => (l.length - x.1).toNat) (0, nilSl, []) ⟨?_, ?_⟩ (fun x hx => ?_)))
  · omega
  · rfl
  obtain ⟨i, o, ds⟩ := x
  obtain ⟨hi, hd⟩ : (0 ≤ i ∧ i ≤ l.length) ∧ (ds = deadT l i.toNat) := hx
  show Sat _ _ [(0, true, .pointer (some ⟨b, 0, none⟩)), (3, true, o.v), (13, true, mo.v), (14, true, I l.length), (15, true, I i)] [OwnS o.v iE ds 3]
  have hdl := deadT_len l i.toNat
  rw [← hd] at hdl
  refine sg (co (Ev.lss_i (.t rfl) (.t rfl)) ?_)
  refine nP (seq ?_)
  first | refine condD rfl (fun hlt => ?_) (fun hge => ?_) | refine cond rfl (fun hlt => ?_) (fun hge => ?_)
  · try simp only [nb] at hlt
    refine skip (pN (seq (block (sg (mv rfl (co (Ev.indexAddr Tryz.underlying143 ty74 (.t rfl) (.t rfl) (fun w I => hmo.keep0 I.keeps) (fun _ => zo)) ?_))))))
    refine co (Ev.loadS0 ty74 (.t rfl) (fun w I => hmo.keep0 I.keeps) (fun _ => zo)) ?_
    refine cons (alloc z74 (fun b1 => ?_))
    refine asn rfl (cons (stv ty74 (Lens.id _) (.t rfl) (.t rfl) ?_))
    refine nP (sg (mv rfl (co (Ev.nilCheck (.t rfl)) ?_)))
    refine co (fA 0 (.t rfl)) ?_
    refine co (Ev.load ty143 (.t rfl) (ptsL (fun w I => hr.keep I.keeps) SRuleRules.l_matches_)) ?_
    have hsub : IsSl eMatch w (subS eMatch.size mo.v 0 i.toNat) (l.take i.toNat) := by
      have := hmo.sub (l := 0) (k := i.toNat) (by omega) (by omega)
      simpa using this
    have htl : (l.take i.toNat).length = i.toNat := by simp; omega
    refine mv rfl (co (Ev.sliceH Tryz.underlying143 ty74 (.t rfl) (.t rfl) (fun w I => hmo.keep0 I.keeps) (fun _ => zo)) ?_)
    refine co (Ev.len Tryz.underlying143 (.t rfl) (fun w I => IsSl.sub (w := w) (hmo.keep0 I.keeps) (by omega) (by omega))) ?_
    refine co (Ev.move (.c (v := I 0) rfl)) ?_
    refine nP (block (lp (X := Int) (fun x : Int => (0 ≤ x ∧ x ≤ i) ∧ (∀ q : Nat, (q : Int) < x → coversM (l.getD q eMatch.zero) (l.getD i.toNat eMatch.zero) = false)) (fun x : Int => [(0, true, .pointer (some ⟨b, 0, none⟩)), (3, true, o.v), (4, true, I i), (5, true, .pointer (some ⟨b1, 0, none⟩)), (13, true, mo.v), (14, true, I l.length), (15, true, I i), (25, true, subS eMatch.size mo.v 0 i.toNat), (26, true, I (l.take i.toNat).length), (27, true, I x)]) (fun x : Int => [Var b1 eMatch (l.getD i.toNat eMatch.zero) 74, OwnS o.v iE ds 3]) (fun x : Int => (i - x).toNat) (0) ⟨?_, ?_⟩ (fun x hx => ?_)))
    · omega
    · intro q hq; omega
    obtain ⟨j, rfl⟩ : ∃ y, y = x := ⟨x, rfl⟩
    obtain ⟨hj, hn⟩ : (0 ≤ j ∧ j ≤ i) ∧ (∀ q : Nat, (q : Int) < j → coversM (l.getD q eMatch.zero) (l.getD i.toNat eMatch.zero) = false) := hx
    show Sat _ _ [(0, true, .pointer (some ⟨b, 0, none⟩)), (3, true, o.v), (4, true, I i), (5, true, .pointer (some ⟨b1, 0, none⟩)), (13, true, mo.v), (14, true, I l.length), (15, true, I i), (25, true, subS eMatch.size mo.v 0 i.toNat), (26, true, I (l.take i.toNat).length), (27, true, I j)] [Var b1 eMatch (l.getD i.toNat eMatch.zero) 74, OwnS o.v iE ds 3]
    refine sg (co (Ev.lss_i (.t rfl) (.t rfl)) ?_)
    refine nP (seq ?_)
    first | refine condD rfl (fun hlt2 => ?_) (fun hge2 => ?_) | refine cond rfl (fun hlt2 => ?_) (fun hge2 => ?_)
    · try simp only [nb] at hlt2
      refine skip (pN (seq (block (sg (co (Ev.indexAddr Tryz.underlying143 ty74 (.t rfl) (.t rfl) (fun w I => hsub.keep0 I.keeps) (fun _ => zo)) ?_)))))
      refine co (Ev.loadS0 ty74 (.t rfl) (fun w I => hsub.keep0 I.keeps) (fun _ => zo)) ?_
      refine cons (alloc z74 (fun b2 => ?_))
      refine cons (stv ty74 (Lens.id _) (.t rfl) (.t rfl) ?_)
      refine nP (sg (co (Ev.ldv ty74 (.t rfl) (Lens.id _)) ?_))
      refine co (Ev.ldv ty74 (.t rfl) (Lens.id _)) ?_
      refine cons (callv en149 (.cons (.t rfl) (.cons (.t rfl) .nil)) (fun w I => covers_ok _ _ w) ?_)
      refine nP ?_
      first | refine condD rfl (fun h3 => ?_) (fun h3 => ?_) | refine cond rfl (fun h3 => ?_) (fun h3 => ?_)
      · have hst : deadT l (i + 1).toNat = deadT l i.toNat ++ [i] := by
          have e : (i + 1).toNat = i.toNat + 1 := by omega
          have e2 : (i.toNat : Int) = i := by omega
          have h3b := h3
          rw [show (l.take i.toNat).getD j.toNat eMatch.zero = l.getD j.toNat eMatch.zero from getD_take' l i.toNat j.toNat _ (by omega)] at h3b
          rw [e, deadT_step, deadAt_yes l i.toNat j.toNat (by omega) (by omega) h3b, e2]; rfl
        refine sg (mv rfl (mv rfl (cons (buildSlice (E := iE) Tryz.underlying22 ty3 z3 (.cons (.t rfl) .nil) rfl rfl (fun v3 => ?_)))))
        refine cons (app (E := iE) Tryz.underlying22 ty3 zb3 zs3 (.t rfl) (.t rfl) (fun v4 => ?_) (hby := ⟨by (show _ ≤ 9223372036854775807); first | omega | (simp; done) | (simp; omega), by first | omega | (simp; done) | (simp; omega)⟩))
        refine asn rfl (nP (exit (bO rfl (pX (pX (bX (bN (pN (region (co (Ev.add_i (.t rfl) (.c (v := I 1) rfl) (fun _ => zo)) ?_))))))))))
        refine mv rfl (nP (nx (X := Int × OV × (List Int)) (i + 1, _, _) ⟨?_, ?_⟩ ?_))
        · try dsimp only
          omega
        · try dsimp only
          rw [hst, ← hd]
        · try dsimp only
          omega
      · have h3b : coversM (l.getD j.toNat eMatch.zero) (l.getD i.toNat eMatch.zero) = false := by
          have e := getD_take' l i.toNat j.toNat eMatch.zero (by omega)
          rw [← e]; simpa using h3
        refine skip (bN (pN (region (co (Ev.add_i (.t rfl) (.c (v := I 1) rfl) (fun _ => zo)) ?_))))
        refine mv rfl (nP (nx (X := Int) (j + 1) ⟨?_, ?_⟩ ?_))
        · try dsimp only
          omega
        · try dsimp only
          intro q hq
          by_cases e : q = j.toNat
          · rw [e]; exact h3b
          · exact hn q (by omega)
        · try dsimp only
          omega
    · try simp only [nb] at hge2
      have hst : deadT l (i + 1).toNat = deadT l i.toNat := by
        have e : (i + 1).toNat = i.toNat + 1 := by omega
        rw [e, deadT_step, deadAt_no l i.toNat (by omega) (fun q hq => hn q (by omega))]; rfl
      refine exit (pX (pX (bX (bN (pN (region (co (Ev.add_i (.t rfl) (.c (v := I 1) rfl) (fun _ => zo)) ?_)))))))
      refine mv rfl (nP (nx (X := Int × OV × (List Int)) (i + 1, _, _) ⟨?_, ?_⟩ ?_))
      · try dsimp only
        omega
      · try dsimp only
        rw [hst, ← hd]
      · try dsimp only
        omega
  · try simp only [nb] at hge
    refine exit (pX (pX (bX (pN (sg (mv rfl (asn rfl (nP (ret (done rfl (.tmp rfl .nil) (retOE zm ?_)))))))))))
    rw [hd]
    unfold deadB
    have e : i.toNat = l.length := by omega
    rw [e]
def lW : List SMatch := [{ eMatch.zero with asks := 2, src := { addr := { v6 := false, b := (Vector.replicate 16 0).set 0 10 }, bits := 8 } }, { eMatch.zero with asks := 1, in_ := ⟨3, 4⟩ }]
def whereT (p : Nat → Bool) (n : Nat) : List Int := ((List.range n).filter p).map fun k : Nat => (k : Int)
theorem whereT_step (p : Nat → Bool) (n : Nat) : whereT p (n + 1) = bif p n then whereT p n ++ [(n : Int)] else whereT p n := by
  unfold whereT
  rw [List.range_succ, List.filter_append]
  cases h : p n <;> simp [h]
theorem whereT_len (p : Nat → Bool) (n : Nat) : (whereT p n).length ≤ n := by
  unfold whereT
  rw [List.length_map]
  exact Nat.le_trans (List.length_filter_le _ _) (by simp)
theorem whereT_yes {p : Nat → Bool} {i : Int} (hi : 0 ≤ i) (h : p i.toNat = true) : whereT p (i + 1).toNat = whereT p i.toNat ++ [i] := by
  have e : (i + 1).toNat = i.toNat + 1 := by omega
  have e2 : (i.toNat : Int) = i := by omega
  rw [e, whereT_step, h, e2]
  rfl
theorem whereT_no {p : Nat → Bool} {i : Int} (hi : 0 ≤ i) (h : p i.toNat = false) : whereT p (i + 1).toNat = whereT p i.toNat := by
  have e : (i + 1).toNat = i.toNat + 1 := by omega
  rw [e, whereT_step, h]
  rfl
theorem unnamed_57 (f b : Nat) (kf : SMeterConf → ByteArray) (m : List (ByteArray × Int)) (u : Value) (xs : List SMeterConf) (w : World) (hen : Gx.Enters Tryz.prog f) (hl : IsSl eMeterConf w u xs) (hm : MapAt w b sE iE m) (hk : FnAt Tryz.prog f [] Nope w eMeterConf sE (fun _ => True) kf) (hxl : xs.length ≤ 1000000) : Calls Tryz.prog 95 #[u, (clo f []).v, .map (some b)] w (RetO w iE (whereT (fun k => (findV eqs (kf (xs.getD k eMeterConf.zero)) m).isNone) xs.length) 3) := by
  have hle := hl.le
  refine en0 35 Tryz.func95 ?_
  refine sg (co (Ev.assign (.c (v := (Go.Value.slice none 0 0)) rfl)) ?_)
  refine nP (sg (co (Ev.assign (.c (v := (Go.Value.slice none 0 0)) rfl)) ?_))
  refine takeNil iE 3 ?_
  refine nP (seq (sg (mv rfl (co (Ev.len Tryz.underlying25 (.t rfl) (fun w I => hl.keep0 I.keeps)) ?_))))
  refine co (Ev.move (.c (v := I 0) rfl)) ?_
  refine nP (block (lp (X := Int × OV × (List Int)) (fun x : Int × OV × (List Int) => (0 ≤ x.1 ∧ x.1 ≤ xs.length) ∧ (x.2.2 = whereT (fun k => (findV eqs (kf (xs.getD k eMeterConf.zero)) m).isNone) x.1.toNat)) (fun x : Int × OV × (List Int) => [(1, true, (clo f []).v), (2, true, .map (some b)), (7, true, x.2.1.v), (12, true, u), (13, true, I xs.length), (14, true, I x.1)]) (fun x : Int × OV × (List Int) => [OwnS x.2.1.v iE x.2.2 3]) (fun x : Int × OV × (List Int) => ((xs.length : Int) - x.1).toNat) (0, nilSl, []) ⟨?_, ?_⟩ (fun x hx => ?_)))
  · omega
  · rfl
  obtain ⟨i, o, ds⟩ := x
  obtain ⟨hi, hd⟩ : (0 ≤ i ∧ i ≤ xs.length) ∧ (ds = whereT (fun k => (findV eqs (kf (xs.getD k eMeterConf.zero)) m).isNone) i.toNat) := hx
  show Sat _ _ [(1, true, (clo f []).v), (2, true, .map (some b)), (7, true, o.v), (12, true, u), (13, true, I xs.length), (14, true, I i)] [OwnS o.v iE ds 3]
  have hdl := whereT_len (fun k => (findV eqs (kf (xs.getD k eMeterConf.zero)) m).isNone) i.toNat
  rw [← hd] at hdl
  refine sg (co (Ev.lss_i (.t rfl) (.t rfl)) ?_)
  refine nP (seq ?_)
  first | refine condD rfl (fun h0 => ?_) (fun h0 => ?_) | refine cond rfl (fun h0 => ?_) (fun h0 => ?_)
  · try simp only [nb] at h0
    refine skip (pN (seq (block (sg (mv rfl (co (Ev.indexAddr Tryz.underlying25 ty57 (.t rfl) (.t rfl) (fun w I => hl.keep0 I.keeps) (fun _ => zo)) ?_))))))
    refine co (Ev.loadS0 ty57 (.t rfl) (fun w I => hl.keep0 I.keeps) (fun _ => zo)) ?_
    refine cons (alloc z57 (fun b1 => ?_))
    refine asn rfl (cons (stv ty57 (Lens.id _) (.t rfl) (.t rfl) ?_))
    refine nP (sg (mv rfl (mv rfl (co (Ev.ldv ty57 (.t rfl) (Lens.id _)) ?_))))
    refine cons (callcv (.t rfl) hen (.cons (.t rfl) .nil) (fun w I => hk.call trivial w I) ?_)
    refine co (Ev.lookupT Tryz.underlying82 Tryz.underlying9 key9 z3 (.t rfl) (.t rfl) (fun _ => (fun w I => hm.keep0 I.keeps))) ?_
    refine mv rfl (co (Ev.extract (.t rfl) rfl) (co (Ev.extract (.t rfl) rfl) (asn rfl (asn rfl (nP (sg (mv rfl (co (Ev.not (.t rfl)) ?_))))))))
    refine nP ?_
    first | refine condD rfl (fun h1 => ?_) (fun h1 => ?_) | refine cond rfl (fun h1 => ?_) (fun h1 => ?_)
    · try simp only [nb] at h1
      have hst := whereT_yes (p := (fun k => (findV eqs (kf (xs.getD k eMeterConf.zero)) m).isNone)) hi.1 (by simpa using h1)
      refine region (mv rfl (mv rfl (cons (buildSlice (E := iE) Tryz.underlying22 ty3 z3 (.cons (.t rfl) .nil) rfl rfl (fun v2 => ?_)))))
      refine cons (app (E := iE) Tryz.underlying22 ty3 zb3 zs3 (.t rfl) (.t rfl) (fun v3 => ?_) (hby := ⟨by (show _ ≤ 9223372036854775807); first | omega | (simp; done) | (simp; omega), by first | omega | (simp; done) | (simp; omega)⟩))
      refine asn rfl (nil (bN (pN (region (co (Ev.add_i (.t rfl) (.c (v := I 1) rfl) (fun _ => zo)) ?_)))))
      refine mv rfl (nP (nx (X := Int × OV × (List Int)) (i + 1, _, _) ⟨?_, ?_⟩ ?_))
      · try dsimp only
        omega
      · try dsimp only
        rw [hst, ← hd]
      · try dsimp only
        omega
    · try simp only [nb] at h1
      have hst := whereT_no (p := (fun k => (findV eqs (kf (xs.getD k eMeterConf.zero)) m).isNone)) hi.1 (by simpa using h1)
      refine skip (bN (pN (region (co (Ev.add_i (.t rfl) (.c (v := I 1) rfl) (fun _ => zo)) ?_))))
      refine mv rfl (nP (nx (X := Int × OV × (List Int)) (i + 1, _, _) ⟨?_, ?_⟩ ?_))
      · try dsimp only
        omega
      · try dsimp only
        rw [hst, ← hd]
      · try dsimp only
        omega
  · try simp only [nb] at h0
    refine exit (pX (pX (bX (pN (sg (mv rfl (asn rfl (nP (ret (done rfl (.tmp rfl .nil) (retOE zm ?_)))))))))))
    rw [hd]
    have e : i.toNat = xs.length := by omega
    rw [e]
theorem unnamed_59 (f b : Nat) (kf : SMirrorConf → ByteArray) (m : List (ByteArray × Int)) (u : Value) (xs : List SMirrorConf) (w : World) (hen : Gx.Enters Tryz.prog f) (hl : IsSl eMirrorConf w u xs) (hm : MapAt w b sE iE m) (hk : FnAt Tryz.prog f [] Nope w eMirrorConf sE (fun _ => True) kf) (hxl : xs.length ≤ 1000000) : Calls Tryz.prog 99 #[u, (clo f []).v, .map (some b)] w (RetO w iE (whereT (fun k => (findV eqs (kf (xs.getD k eMirrorConf.zero)) m).isNone) xs.length) 3) := by
  have hle := hl.le
  refine en0 35 Tryz.func99 ?_
  refine sg (co (Ev.assign (.c (v := (Go.Value.slice none 0 0)) rfl)) ?_)
  refine nP (sg (co (Ev.assign (.c (v := (Go.Value.slice none 0 0)) rfl)) ?_))
  refine takeNil iE 3 ?_
  refine nP (seq (sg (mv rfl (co (Ev.len Tryz.underlying26 (.t rfl) (fun w I => hl.keep0 I.keeps)) ?_))))
  refine co (Ev.move (.c (v := I 0) rfl)) ?_
  refine nP (block (lp (X := Int × OV × (List Int)) (fun x : Int × OV × (List Int) => (0 ≤ x.1 ∧ x.1 ≤ xs.length) ∧ (x.2.2 = whereT (fun k => (findV eqs (kf (xs.getD k eMirrorConf.zero)) m).isNone) x.1.toNat)) (fun x : Int × OV × (List Int) => [(1, true, (clo f []).v), (2, true, .map (some b)), (7, true, x.2.1.v), (12, true, u), (13, true, I xs.length), (14, true, I x.1)]) (fun x : Int × OV × (List Int) => [OwnS x.2.1.v iE x.2.2 3]) (fun x : Int × OV × (List Int) => ((xs.length : Int) - x.1).toNat) (0, nilSl, []) ⟨?_, ?_⟩ (fun x hx => ?_)))
  · omega
  · rfl
  obtain ⟨i, o, ds⟩ := x
  obtain ⟨hi, hd⟩ : (0 ≤ i ∧ i ≤ xs.length) ∧ (ds = whereT (fun k => (findV eqs (kf (xs.getD k eMirrorConf.zero)) m).isNone) i.toNat) := hx
  show Sat _ _ [(1, true, (clo f []).v), (2, true, .map (some b)), (7, true, o.v), (12, true, u), (13, true, I xs.length), (14, true, I i)] [OwnS o.v iE ds 3]
  have hdl := whereT_len (fun k => (findV eqs (kf (xs.getD k eMirrorConf.zero)) m).isNone) i.toNat
  rw [← hd] at hdl
  refine sg (co (Ev.lss_i (.t rfl) (.t rfl)) ?_)
  refine nP (seq ?_)
  first | refine condD rfl (fun h0 => ?_) (fun h0 => ?_) | refine cond rfl (fun h0 => ?_) (fun h0 => ?_)
  · try simp only [nb] at h0
    refine skip (pN (seq (block (sg (mv rfl (co (Ev.indexAddr Tryz.underlying26 ty59 (.t rfl) (.t rfl) (fun w I => hl.keep0 I.keeps) (fun _ => zo)) ?_))))))
    refine co (Ev.loadS0 ty59 (.t rfl) (fun w I => hl.keep0 I.keeps) (fun _ => zo)) ?_
    refine cons (alloc z59 (fun b1 => ?_))
    refine asn rfl (cons (stv ty59 (Lens.id _) (.t rfl) (.t rfl) ?_))
    refine nP (sg (mv rfl (mv rfl (co (Ev.ldv ty59 (.t rfl) (Lens.id _)) ?_))))
    refine cons (callcv (.t rfl) hen (.cons (.t rfl) .nil) (fun w I => hk.call trivial w I) ?_)
    refine co (Ev.lookupT Tryz.underlying82 Tryz.underlying9 key9 z3 (.t rfl) (.t rfl) (fun _ => (fun w I => hm.keep0 I.keeps))) ?_
    refine mv rfl (co (Ev.extract (.t rfl) rfl) (co (Ev.extract (.t rfl) rfl) (asn rfl (asn rfl (nP (sg (mv rfl (co (Ev.not (.t rfl)) ?_))))))))
    refine nP ?_
    first | refine condD rfl (fun h1 => ?_) (fun h1 => ?_) | refine cond rfl (fun h1 => ?_) (fun h1 => ?_)
    · try simp only [nb] at h1
      have hst := whereT_yes (p := (fun k => (findV eqs (kf (xs.getD k eMirrorConf.zero)) m).isNone)) hi.1 (by simpa using h1)
      refine region (mv rfl (mv rfl (cons (buildSlice (E := iE) Tryz.underlying22 ty3 z3 (.cons (.t rfl) .nil) rfl rfl (fun v2 => ?_)))))
      refine cons (app (E := iE) Tryz.underlying22 ty3 zb3 zs3 (.t rfl) (.t rfl) (fun v3 => ?_) (hby := ⟨by (show _ ≤ 9223372036854775807); first | omega | (simp; done) | (simp; omega), by first | omega | (simp; done) | (simp; omega)⟩))
      refine asn rfl (nil (bN (pN (region (co (Ev.add_i (.t rfl) (.c (v := I 1) rfl) (fun _ => zo)) ?_)))))
      refine mv rfl (nP (nx (X := Int × OV × (List Int)) (i + 1, _, _) ⟨?_, ?_⟩ ?_))
      · try dsimp only
        omega
      · try dsimp only
        rw [hst, ← hd]
      · try dsimp only
        omega
    · try simp only [nb] at h1
      have hst := whereT_no (p := (fun k => (findV eqs (kf (xs.getD k eMirrorConf.zero)) m).isNone)) hi.1 (by simpa using h1)
      refine skip (bN (pN (region (co (Ev.add_i (.t rfl) (.c (v := I 1) rfl) (fun _ => zo)) ?_))))
      refine mv rfl (nP (nx (X := Int × OV × (List Int)) (i + 1, _, _) ⟨?_, ?_⟩ ?_))
      · try dsimp only
        omega
      · try dsimp only
        rw [hst, ← hd]
      · try dsimp only
        omega
  · try simp only [nb] at h0
    refine exit (pX (pX (bX (pN (sg (mv rfl (asn rfl (nP (ret (done rfl (.tmp rfl .nil) (retOE zm ?_)))))))))))
    rw [hd]
    have e : i.toNat = xs.length := by omega
    rw [e]
theorem skey1 (a : SMeterConf) (w : World) : Calls Tryz.prog 96 #[eMeterConf.val a] w (RetV w (sE.val (a.name))) := by
  refine en0 5 Tryz.func96 ?_
  refine sg (cons (box (E := eMeterConf) (.t rfl) (fun b1 => ?_)))
  refine co (Ev.assign (.c (v := (Go.Value.string (ByteArray.mk #[]))) rfl)) ?_
  refine nP (sg (co (fA 0 (.t rfl)) ?_))
  refine co (Ev.ldx a.name ty9 (.t rfl) SMeterConf.l_name) ?_
  refine asn rfl (nP (ret (done rfl (.tmp rfl .nil) (retE ?_))))
  rfl
theorem skey1_at (M : Nat → Prop) (w : World) : FnAt Tryz.prog 96 [] M w eMeterConf sE (fun _ => True) (fun a => a.name) := fun a w _ _ => skey1 a w
theorem skey2 (a : SRule) (w : World) : Calls Tryz.prog 98 #[eRule.val a] w (RetV w (sE.val (a.meter))) := by
  refine en0 5 Tryz.func98 ?_
  refine sg (cons (box (E := eRule) (.t rfl) (fun b1 => ?_)))
  refine co (Ev.assign (.c (v := (Go.Value.string (ByteArray.mk #[]))) rfl)) ?_
  refine nP (sg (co (fA 47 (.t rfl)) ?_))
  refine co (Ev.ldx a.meter ty9 (.t rfl) SRule.l_meter) ?_
  refine asn rfl (nP (ret (done rfl (.tmp rfl .nil) (retE ?_))))
  rfl
theorem skey2_at (M : Nat → Prop) (w : World) : FnAt Tryz.prog 98 [] M w eRule sE (fun _ => True) (fun a => a.meter) := fun a w _ _ => skey2 a w
theorem skey3 (a : SMirrorConf) (w : World) : Calls Tryz.prog 100 #[eMirrorConf.val a] w (RetV w (sE.val (a.name))) := by
  refine en0 5 Tryz.func100 ?_
  refine sg (cons (box (E := eMirrorConf) (.t rfl) (fun b1 => ?_)))
  refine co (Ev.assign (.c (v := (Go.Value.string (ByteArray.mk #[]))) rfl)) ?_
  refine nP (sg (co (fA 0 (.t rfl)) ?_))
  refine co (Ev.ldx a.name ty9 (.t rfl) SMirrorConf.l_name) ?_
  refine asn rfl (nP (ret (done rfl (.tmp rfl .nil) (retE ?_))))
  rfl
theorem skey3_at (M : Nat → Prop) (w : World) : FnAt Tryz.prog 100 [] M w eMirrorConf sE (fun _ => True) (fun a => a.name) := fun a w _ _ => skey3 a w
theorem skey4 (a : SRule) (w : World) : Calls Tryz.prog 101 #[eRule.val a] w (RetV w (sE.val (a.mirror))) := by
  refine en0 5 Tryz.func101 ?_
  refine sg (cons (box (E := eRule) (.t rfl) (fun b1 => ?_)))
  refine co (Ev.assign (.c (v := (Go.Value.string (ByteArray.mk #[]))) rfl)) ?_
  refine nP (sg (co (fA 48 (.t rfl)) ?_))
  refine co (Ev.ldx a.mirror ty9 (.t rfl) SRule.l_mirror) ?_
  refine asn rfl (nP (ret (done rfl (.tmp rfl .nil) (retE ?_))))
  rfl
theorem skey4_at (M : Nat → Prop) (w : World) : FnAt Tryz.prog 101 [] M w eRule sE (fun _ => True) (fun a => a.mirror) := fun a w _ _ => skey4 a w
theorem rule_okM {l : CL} {r : SRule} {i : Int} (h : ruleE l r i = 0) : okM r.match_ = true := by
  unfold ruleE at h
  split at h
  · cases h
  split at h
  · cases h
  split at h
  · cases h
  · rename_i h3
    simpa using h3
def mtL (l : CL) : List SMatch := l.us.map fun r => r.match_
theorem may_comp {l : CL} {d : Int} (h : mayB l d = true) : compE (mtL l) = 0 := by
  have hl := may_lens h
  have hg := (may_good h).us
  have h1 : (mtL l).length = l.us.length := by simp [mtL]
  have h2 : (mtL l).all okM = true := List.all_eq_true.2 fun m hm => by
    obtain ⟨r, hr, rfl⟩ := List.mem_map.1 hm
    obtain ⟨i, hi, rfl⟩ := List.mem_iff_getElem.1 hr
    have := rule_okM (hg i hi)
    simpa [List.getD, hi] using this
  unfold compE
  rw [decide_eq_false (by omega), h2]
  rfl
def spareA (l : CL) : List Int := whereT (fun k => (findV eqs (l.ms.getD k eMeterConf.zero).name (firstN eqs (fun a => a.meter) l.us l.us.length)).isNone) l.ms.length
def spareB (l : CL) : List Int := whereT (fun k => (findV eqs (l.xs.getD k eMirrorConf.zero).name (firstN eqs (fun a => a.mirror) l.us l.us.length)).isNone) l.xs.length
def spE (l : CL) (d : Int) : Int := bif mayB l d then 0 else 210
def spL (l : CL) (d : Int) (x : List Int) : List Int := bif mayB l d then x else []
theorem en98 : Gx.Enters Tryz.prog 98 := Gx.Enters.mk' zk
theorem en101 : Gx.Enters Tryz.prog 101 := Gx.Enters.mk' zk
theorem en96 : Gx.Enters Tryz.prog 96 := Gx.Enters.mk' zk
theorem en100 : Gx.Enters Tryz.prog 100 := Gx.Enters.mk' zk
theorem en94 : Gx.Enters Tryz.prog 94 := Gx.Enters.mk' zk
theorem en95 : Gx.Enters Tryz.prog 95 := Gx.Enters.mk' zk
theorem en99 : Gx.Enters Tryz.prog 99 := Gx.Enters.mk' zk
theorem en102 : Gx.Enters Tryz.prog 102 := Gx.Enters.mk' zk
theorem spare_ok (c : SConf) (l : CL) (w : World) (hc : ConfAt w c l) (hn : l.Names) (hz : l.n ≤ 4611686018427387904) : Calls Tryz.prog 29 #[eConf.val c] w (RetN w (fun _ : OV × OV × OV => True) (fun x => .tuple #[x.1.v, x.2.1.v, x.2.2.v, I (spE l c.default)]) (fun x => [OwnS x.1.v iE (spL l c.default (spareA l)) 3, OwnS x.2.1.v iE (spL l c.default (spareB l)) 3, OwnS x.2.2.v iE (spL l c.default (deadB (mtL l))) 3])) := by
  have hle := hc.us.le
  refine en0 49 Tryz.func29 ?_
  refine sg (cons (box (E := eConf) (.t rfl) (fun b1 => ?_)))
  refine co (Ev.assign (.c (v := (Go.Value.slice none 0 0)) rfl)) ?_
  refine co (Ev.assign (.c (v := (Go.Value.slice none 0 0)) rfl)) ?_
  refine co (Ev.assign (.c (v := (Go.Value.slice none 0 0)) rfl)) ?_
  refine co (Ev.assign (.c (v := I 0) rfl)) ?_
  refine nP (seq (sg (co (Ev.ldx c ty28 (.t rfl) (Lens.id _)) ?_)))
  refine cons (callv en15 (.cons (.t rfl) .nil) (fun w I => may_ok c l w (hc.keep0 I.keeps) hn hz) ?_)
  refine co (Ev.not (.t rfl)) ?_
  refine nP ?_
  first | refine condD rfl (fun h0 => ?_) (fun h0 => ?_) | refine cond rfl (fun h0 => ?_) (fun h0 => ?_)
  · have hmay : mayB l c.default = false := by simpa using h0
    refine seq (takeNil iE 3 ?_)
    refine takeNil iE 3 ?_
    refine takeNil iE 3 ?_
    refine region (co (Ev.assign (.c (v := (Go.Value.slice none 0 0)) rfl)) ?_)
    refine co (Ev.assign (.c (v := (Go.Value.slice none 0 0)) rfl)) ?_
    refine co (Ev.assign (.c (v := (Go.Value.slice none 0 0)) rfl)) ?_
    refine co (Ev.assign (.c (v := I 210) rfl)) ?_
    refine nP (ret (pR (done rfl (.tmp rfl (.tmp rfl (.tmp rfl (.tmp rfl .nil)))) (fun w I => ?_))))
    refine retNP (nilSl, nilSl, nilSl) trivial ?_ ?_ w I
    · unfold spE; rw [hmay]; rfl
    · unfold spL; rw [hmay]; exact (by repeat first | exact SubP.nil | refine SubP.cons zr ?_)
  · have hmay : mayB l c.default = true := by simpa using h0
    have hlens := may_lens hmay
    have hcomp := may_comp hmay
    refine skip (pN (sg (co (Ev.assign (.c (v := (Go.Value.slice none 0 0)) rfl)) ?_)))
    refine takeNil eMatch 74 ?_
    refine nP (seq (sg (co (fA 2 (.t rfl)) ?_)))
    refine co (Ev.ldx c.rules ty24 (.t rfl) SConf.l_rules) ?_
    refine co (Ev.len Tryz.underlying24 (.t rfl) (fun w I => (hc.keep0 I.keeps).us)) ?_
    refine co (Ev.move (.c (v := I 0) rfl)) ?_
    refine nP (block (lp (X := Int × OV) (fun x : Int × OV => (0 ≤ x.1 ∧ x.1 ≤ l.us.length)) (fun x : Int × OV => [(1, true, .pointer (some ⟨b1, 0, none⟩)), (6, true, x.2.v), (14, true, c.rules.v), (15, true, I l.us.length), (16, true, I x.1)]) (fun x : Int × OV => [OwnS x.2.v eMatch ((l.us.take x.1.toNat).map (fun r => r.match_)) 74, Var b1 eConf c 28]) (fun x : Int × OV => ((l.us.length : Int) - x.1).toNat) (0, nilSl) ?_ (fun x hx => ?_)))
    · omega
    obtain ⟨i, q⟩ := x
    have hi : 0 ≤ i ∧ i ≤ l.us.length := hx
    clear hx
    show Sat _ _ [(1, true, .pointer (some ⟨b1, 0, none⟩)), (6, true, q.v), (14, true, c.rules.v), (15, true, I l.us.length), (16, true, I i)] [OwnS q.v eMatch ((l.us.take i.toNat).map (fun r => r.match_)) 74, Var b1 eConf c 28]
    have hql : ((l.us.take i.toNat).map (fun r => r.match_)).length ≤ 256 := by simp; omega
    refine sg (co (Ev.lss_i (.t rfl) (.t rfl)) ?_)
    refine nP (seq ?_)
    first | refine condD rfl (fun h1 => ?_) (fun h1 => ?_) | refine cond rfl (fun h1 => ?_) (fun h1 => ?_)
    · try simp only [nb] at h1
      refine skip (pN (seq (block (sg (co (Ev.indexAddr Tryz.underlying24 ty76 (.t rfl) (.t rfl) (fun w I => (hc.keep0 I.keeps).us) (fun _ => zo)) ?_)))))
      refine co (Ev.loadS0 ty76 (.t rfl) (fun w I => (hc.keep0 I.keeps).us) (fun _ => zo)) ?_
      refine cons (alloc z76 (fun b2 => ?_))
      refine cons (stv ty76 (Lens.id _) (.t rfl) (.t rfl) ?_)
      refine nP (region (mv rfl (co (fA 1 (.t rfl)) ?_)))
      refine co (Ev.ldv ty74 (.t rfl) SRule.l_match_) ?_
      refine cons (buildSlice (E := eMatch) Tryz.underlying143 ty74 z74 (.cons (.t rfl) .nil) rfl rfl (fun v3 => ?_))
      refine cons (app (E := eMatch) Tryz.underlying143 ty74 zb74 zs74 (.t rfl) (.t rfl) (fun v4 => ?_) (hby := ⟨by (show _ ≤ 9223372036854775807); first | omega | (simp; done) | (simp; omega), by first | omega | (simp; done) | (simp; omega)⟩))
      refine asn rfl (nil (bN (pN (region (co (Ev.add_i (.t rfl) (.c (v := I 1) rfl) (fun _ => zo)) ?_)))))
      refine mv rfl (nP (nx (X := Int × OV) (i + 1, _) ?_ ?_ (hL := (by rw [take_snoc l.us i hi.1 (by omega) eRule.zero, List.map_append]; repeat first | exact sR | exact sN | apply sC | apply sS | apply sA))))
      · try dsimp only
        omega
      · try dsimp only
        omega
    · try simp only [nb] at h1
      refine exit (pX (pX (bX (pN (seq ?_)))))
      have hq : (l.us.take i.toNat).map (fun r => r.match_) = mtL l := by rw [List.take_of_length_le (by omega)]; rfl
      rw [hq]
      refine region (mv rfl (cons (calln (X := Nat × List Res) (CompJ (mtL l)) (compV (mtL l)) (fun x => x.2) en94 (.cons (.t rfl) .nil) (fun w I => compile_ok _ (mtL l) w (io w I)) (fun x1 hx1 => ?_))))
      refine mv rfl (co (Ev.to (v' := .pointer (some ⟨x1.1, 0, none⟩)) (Ev.extract (.t rfl) rfl) (congrArg Value.pointer (ptrO_ok x1.1 hcomp))) ?_)
      refine co (Ev.to (v' := I 0) (Ev.extract (.t rfl) rfl) (congrArg I hcomp)) ?_
      refine asn rfl (asn rfl (nP (seq (sg (mv rfl (co (Ev.neq_i (.t rfl) (.c (v := I 0) rfl)) ?_))))))
      refine nP (condF rfl (rfl) ?_)
      refine skip (pN (seq (draw' zk ?_)))
      refine tk 0 rfl (fA 3 (.t rfl)) ?_
      refine tk 1 rfl (Ev.ldx c.meters ty25 (.t rfl) SConf.l_meters) ?_
      refine tk 2 rfl (fA 2 (.t rfl)) ?_
      refine tk 3 rfl (Ev.ldx c.rules ty24 (.t rfl) SConf.l_rules) ?_
      refine al1 4 rfl ((calln (X := Nat) (fun _ => True) (fun b => .map (some b)) (fun b => [MapR b sE iE (firstN eqs (fun a : SRule => a.meter) l.us l.us.length)]) en97 (.cons (.t rfl) (.cons .f .nil)) (fun w I => first_9_76 98 [] _ _ l.us w en98 (hc.keep0 I.keeps).us (skey2_at _ w)) (fun m1 _ => ?_)))
      refine hdn (al1 5 rfl ((callo en95 (.cons (.t rfl) (.cons .f (.cons (.t rfl) .nil))) (fun w I => unnamed_57 96 m1 _ _ _ l.ms w en96 (hc.keep0 I.keeps).ms (mapAt_own zm w I) (skey1_at _ w) (by omega)) (fun o1 => ?_))))
      refine hdn (tk 6 rfl (Ev.assign (.t rfl)) ?_)
      refine ovr (pN (seq (draw' zk ?_)))
      refine tk 0 rfl (fA 4 (.t rfl)) ?_
      refine tk 1 rfl (Ev.ldx c.mirrors ty26 (.t rfl) SConf.l_mirrors) ?_
      refine tk 2 rfl (fA 2 (.t rfl)) ?_
      refine tk 3 rfl (Ev.ldx c.rules ty24 (.t rfl) SConf.l_rules) ?_
      refine al1 4 rfl ((calln (X := Nat) (fun _ => True) (fun b => .map (some b)) (fun b => [MapR b sE iE (firstN eqs (fun a : SRule => a.mirror) l.us l.us.length)]) en97 (.cons (.t rfl) (.cons .f .nil)) (fun w I => first_9_76 101 [] _ _ l.us w en101 (hc.keep0 I.keeps).us (skey4_at _ w)) (fun m2 _ => ?_)))
      refine hdn (al1 5 rfl ((callo en99 (.cons (.t rfl) (.cons .f (.cons (.t rfl) .nil))) (fun w I => unnamed_59 100 m2 _ _ _ l.xs w en100 (hc.keep0 I.keeps).xs (mapAt_own zm w I) (skey3_at _ w) (by omega)) (fun o2 => ?_))))
      refine hdn (tk 6 rfl (Ev.assign (.t rfl)) ?_)
      refine ovr (pN (sg (mv rfl (mv rfl (mv rfl (cons (callo en102 (.cons (.t rfl) .nil) (fun w I => dead_ok x1.1 (mtL l) w (hx1 hcomp w (fun r hr => (I.own r (by repeat first | exact List.mem_append_left _ hr | apply List.Mem.tail | (apply List.mem_append_right []; exact List.mem_append_left _ hr))).1)) (by rw [show (mtL l).length = l.us.length by simp [mtL]]; omega)) (fun v5 => ?_))))))))
      refine asn rfl (asn rfl (asn rfl (co (Ev.assign (.c (v := I 0) rfl)) ?_)))
      refine nP (ret (done rfl (.tmp rfl (.tmp rfl (.tmp rfl (.tmp rfl .nil)))) (fun w I => ?_)))
      refine retNP (o1, o2, v5) trivial ?_ ?_ w I
      · unfold spE; rw [hmay]; rfl
      · unfold spL; rw [hmay]; exact (by repeat first | exact SubP.nil | refine SubP.cons zr ?_)
def usedA (l : CL) (k : Nat) : Bool := l.us.any fun r => decide (r.meter = (l.ms.getD k eMeterConf.zero).name)
def usedB (l : CL) (k : Nat) : Bool := l.us.any fun r => decide (r.mirror = (l.xs.getD k eMirrorConf.zero).name)
theorem en29 : Gx.Enters Tryz.prog 29 := Gx.Enters.mk' zk
theorem en31 : Gx.Enters Tryz.prog 31 := Gx.Enters.mk' zk
def idxs (l : List SMatch) (n : Nat) : List Nat := (List.range n).filter fun k => !deadAt l k
def alT (l : List SMatch) (n : Nat) : List SMatch := (idxs l n).map fun k => l.getD k eMatch.zero
def plT (l : List SMatch) (n : Nat) : List Int := (idxs l n).map fun k : Nat => (k : Int)
def keepN {α : Type} (p : Nat → Bool) (l : List α) (z : α) : List α := (whereT (fun k => !p k) l.length).map fun i => l.getD i.toNat z
def keptC (l : CL) : CL := ⟨l.ps, l.rs, keepN (deadAt (mtL l)) l.us eRule.zero, keepN (fun k => !usedA l k) l.ms eMeterConf.zero, keepN (fun k => !usedB l k) l.xs eMirrorConf.zero⟩
theorem ruleE_z {l : CL} {r : SRule} {i : Int} : ruleE l r i = 0 ↔ nameB r.name = true ∧ okM r.match_ = true ∧ ¬ (r.action < 1 ∨ 4 < r.action) ∧ ¬ ruleO l r = true ∧ ¬ ((r.meter ≠ ⟨#[]⟩ ∧ inM (metersM l) r.meter = false) ∨ (r.mirror ≠ ⟨#[]⟩ ∧ inM (mirrorsM l) r.mirror = false)) ∧ ¬ (findV eqs r.name (rulesM l)).getD 0 < i := by
  unfold ruleE
  split
  · rename_i h1
    exact ⟨fun h0 => absurd h0 (by decide), fun hh => by rw [hh.1] at h1; cases h1⟩
  rename_i h1
  split
  · rename_i h2
    exact ⟨fun h0 => absurd h0 (by decide), fun hh => absurd h2 hh.2.2.2.2.2⟩
  rename_i h2
  split
  · rename_i h3
    exact ⟨fun h0 => absurd h0 (by decide), fun hh => by rw [hh.2.1] at h3; cases h3⟩
  rename_i h3
  split
  · rename_i h4
    exact ⟨fun h0 => absurd h0 (by decide), fun hh => absurd h4 hh.2.2.1⟩
  rename_i h4
  split
  · rename_i h5
    exact ⟨fun h0 => absurd h0 (by decide), fun hh => absurd h5 hh.2.2.2.1⟩
  rename_i h5
  split
  · rename_i h6
    exact ⟨fun h0 => absurd h0 (by decide), fun hh => absurd h6 hh.2.2.2.2.1⟩
  rename_i h6
  exact ⟨fun _ => ⟨by simpa using h1, by simpa using h3, h4, h5, h6, h2⟩, fun _ => rfl⟩
theorem zp {p q : Prop} (h : p := by (show _ ≤ 9223372036854775807); first | omega | (simp; done) | (simp; omega)) (k : q := by first | omega | (simp; done) | (simp; omega)) : p ∧ q := ⟨h, k⟩
theorem add_s {P : Program} {K : Ctx} {F : Fr} {L : List Res} {g : Bool} {x y : Operand} {t t' ty : TypeId} {a b : ByteArray} (hx : Opd F g x (.string a)) (hy : Opd F g y (.string b)) (hl : a.size + b.size ≤ 1000000) : Ev P K F L g (.binOp .add t x y t') ty (.string (a ++ b)) :=
  Ev.bin hx hy (fun w => eqGuard_string w) (fun w => by
    have e : ¬ ((a.size + b.size : Nat) : Int) > IntKind.i64.max := by
      have e : IntKind.i64.max = 9223372036854775807 := by decide
      omega
    rw [binOp_string_add]
    unfold Op.stringOp
    simp only [if_neg e]
    rfl)
def byN (k : Nat) : UInt8 := UInt8.ofInt (97 + ((k % 16 : Nat) : Int))
def nameN (k : Nat) : ByteArray := (⟨#[110]⟩ : ByteArray) ++ ⟨[byN (k / 256), byN (k / 16), byN k].toArray⟩
def roN (k : Nat) : SRoute := ⟨⟨⟨false, (((Vector.replicate 16 (0 : UInt8)).set 0 10).set 1 (UInt8.ofInt ((k / 256 : Nat) : Int))).set 2 (UInt8.ofInt (k : Int))⟩, 24⟩, 0⟩
def ruN (k : Nat) : SRule := { eRule.zero with name := nameN k, action := 2 }
def meN (k : Nat) : SMeterConf := ⟨nameN k, bkt1⟩
def miN (k : Nat) : SMirrorConf := ⟨nameN k, 0, 2 * 2 ^ (k % 10)⟩
def manyL (a b c d e : Nat) : CL := ⟨(List.range a).map (fun k : Nat => (k : Int)), (List.range b).map roN, (List.range c).map ruN, (List.range d).map meN, (List.range e).map miN⟩
theorem range_step {α : Type} (f : Nat → α) {i : Int} (h : 0 ≤ i) : (List.range (i + 1).toNat).map f = (List.range i.toNat).map f ++ [f i.toNat] := by
  have e : (i + 1).toNat = i.toNat + 1 := by omega
  rw [e, List.range_succ, List.map_append]
  rfl
theorem range_stepI {i : Int} (h : 0 ≤ i) : (List.range (i + 1).toNat).map (fun k : Nat => (k : Int)) = (List.range i.toNat).map (fun k : Nat => (k : Int)) ++ [i] := by
  rw [range_step _ h, show ((i.toNat : Nat) : Int) = i by omega]
theorem nameN_size (k : Nat) : (nameN k).size = 4 := rfl
theorem nameN_of {i : Int} (h : 0 ≤ i) : (⟨#[110]⟩ : ByteArray) ++ ⟨[UInt8.ofInt (97 + i / 256 % 16), UInt8.ofInt (97 + i / 16 % 16), UInt8.ofInt (97 + i % 16)].toArray⟩ = nameN i.toNat := by
  obtain ⟨k, rfl⟩ : ∃ k : Nat, i = k := ⟨i.toNat, by omega⟩
  rfl
theorem roN_of {i : Int} (h : 0 ≤ i) : (⟨⟨⟨false, (((Vector.replicate 16 (0 : UInt8)).set 0 10).set 1 (UInt8.ofInt (i / 256))).set 2 (UInt8.ofInt i)⟩, 24⟩, 0⟩ : SRoute) = roN i.toNat := by
  obtain ⟨k, rfl⟩ : ∃ k : Nat, i = k := ⟨i.toNat, by omega⟩
  rfl
theorem shl_of {i : Int} (h : 0 ≤ i) : (2 : Int) * 2 ^ ((i % 10).toNat) = 2 * 2 ^ (i.toNat % 10) := by
  have e1 : (i % 10).toNat = i.toNat % 10 := by omega
  rw [e1]
theorem pow10 (k : Nat) (h : k < 10) : (2 : Int) ^ k ≤ 512 ∧ 0 ≤ (2 : Int) ^ k := by
  rcases (by omega : k = 0 ∨ k = 1 ∨ k = 2 ∨ k = 3 ∨ k = 4 ∨ k = 5 ∨ k = 6 ∨ k = 7 ∨ k = 8 ∨ k = 9) with rfl | rfl | rfl | rfl | rfl | rfl | rfl | rfl | rfl | rfl <;> decide
theorem z5 : (Tryz.prog.info? 5).bind (·.zero) = some (u8E.val u8E.zero) := by kernel_rfl
theorem many1_ok (i : Int) (w : World) (hi : 0 ≤ i ∧ i ≤ 4000) : Calls Tryz.prog 104 #[I i] w (RetV w (.string (nameN i.toNat))) := by
  refine en0 20 Tryz.func104 ?_
  refine sg (co (Ev.assign (.c (v := (Go.Value.string (ByteArray.mk #[]))) rfl)) ?_)
  refine nP (sg (mv rfl (co (Ev.quo_n (.t rfl) (.c (v := I 256) rfl) (fun _ => zo) (fun _ => zo) (fun _ => zo)) ?_)))
  refine co (Ev.rem_n (.t rfl) (.c (v := I 16) rfl) (fun _ => zo) (fun _ => zo)) ?_
  refine co (Ev.add_i (.c (v := I 97) rfl) (.t rfl) (fun _ => zo)) ?_
  refine co (Ev.conv_i_u8 Tryz.underlying5 Tryz.underlying3 (.t rfl)) ?_
  refine mv rfl (co (Ev.quo_n (.t rfl) (.c (v := I 16) rfl) (fun _ => zo) (fun _ => zo) (fun _ => zo)) ?_)
  refine co (Ev.rem_n (.t rfl) (.c (v := I 16) rfl) (fun _ => zo) (fun _ => zo)) ?_
  refine co (Ev.add_i (.c (v := I 97) rfl) (.t rfl) (fun _ => zo)) ?_
  refine co (Ev.conv_i_u8 Tryz.underlying5 Tryz.underlying3 (.t rfl)) ?_
  refine mv rfl (co (Ev.rem_n (.t rfl) (.c (v := I 16) rfl) (fun _ => zo) (fun _ => zo)) ?_)
  refine co (Ev.add_i (.c (v := I 97) rfl) (.t rfl) (fun _ => zo)) ?_
  refine co (Ev.conv_i_u8 Tryz.underlying5 Tryz.underlying3 (.t rfl)) ?_
  refine cons (buildSlice (E := u8E) Tryz.underlying153 ty5 z5 (.cons (.t rfl) (.cons (.t rfl) (.cons (.t rfl) .nil))) rfl rfl (fun v1 => ?_))
  refine co (Ev.convBS Tryz.underlying153 Tryz.underlying5 Tryz.underlying9 (.t rfl) zf) ?_
  refine co (add_s (.c (v := .string ⟨#[110]⟩) rfl) (.t rfl) (Nat.le_of_ble_eq_true rfl)) ?_
  refine asn rfl (nP (ret (done rfl (.tmp rfl .nil) (retE ?_))))
  exact congrArg Value.string (nameN_of hi.1)
theorem en104 : Gx.Enters Tryz.prog 104 := Gx.Enters.mk' zk
theorem many_ok (a b c d e : Nat) (w : World) (hm : a ≤ 1100 ∧ b ≤ 1100 ∧ c ≤ 1100 ∧ d ≤ 1100 ∧ e ≤ 1100) : Calls Tryz.prog 34 #[I (a : Nat), I (b : Nat), I (c : Nat), I (d : Nat), I (e : Nat)] w (RetN w (fun _ : CB => True) (fun x => eConf.val (x.c 4)) (fun x => x.R (manyL a b c d e))) := by
  refine en0 96 Tryz.func34 ?_
  refine sg (cons (alloc z28 (fun b1 => ?_)))
  refine nP (sg (co (Ev.buildS (fs := _) (places := [(0, 1), (1, 1), (2, 1), (3, 1), (4, 1), (5, 1)]) z28 rfl Tryz.underlying28 zk (.cons (.c (v := I 4) rfl) .nil) (Fills.cons SConf.l_default rfl Fills.nil)) ?_))
  refine cons (alloc z28 (fun b2 => ?_))
  refine cons (stv ty28 (Lens.id _) (.t rfl) (.t rfl) ?_)
  refine nP (sg (co (Ev.assign .f) ?_))
  refine nP (seq (seq (takeNil iE 3 ?_)))
  refine region (co (Ev.assign (.c (v := I 0) rfl)) ?_)
  refine nP (block (lp (X := Int × OV) (fun x : Int × OV => (0 ≤ x.1 ∧ x.1 ≤ a)) (fun x : Int × OV => [(0, true, I (a : Nat)), (1, true, I (b : Nat)), (2, true, I (c : Nat)), (3, true, I (d : Nat)), (4, true, I (e : Nat)), (10, true, .pointer (some ⟨b1, 0, none⟩)), (11, true, .pointer (some ⟨b2, 0, none⟩)), (12, true, (clo 104 []).v), (13, true, I x.1)]) (fun x : Int × OV => [OwnS x.2.v iE ((List.range x.1.toNat).map (fun k : Nat => (k : Int))) 3, Var b2 eConf (⟨x.2, nilSl, nilSl, nilSl, nilSl, 4⟩ : SConf) 28, Var b1 eConf eConf.zero 28]) (fun x : Int × OV => ((a : Int) - x.1).toNat) (0, nilSl) ?_ (fun x hx => ?_)))
  · omega
  obtain ⟨i0, o1⟩ := x
  have hi0 : 0 ≤ i0 ∧ i0 ≤ a := hx
  clear hx
  show Sat _ _ [(0, true, I (a : Nat)), (1, true, I (b : Nat)), (2, true, I (c : Nat)), (3, true, I (d : Nat)), (4, true, I (e : Nat)), (10, true, .pointer (some ⟨b1, 0, none⟩)), (11, true, .pointer (some ⟨b2, 0, none⟩)), (12, true, (clo 104 []).v), (13, true, I i0)] [OwnS o1.v iE ((List.range i0.toNat).map (fun k : Nat => (k : Int))) 3, Var b2 eConf (⟨o1, nilSl, nilSl, nilSl, nilSl, 4⟩ : SConf) 28, Var b1 eConf eConf.zero 28]
  have hq0 : ((List.range i0.toNat).map (fun k : Nat => (k : Int))).length ≤ 2000 := by rw [List.length_map, List.length_range]; omega
  refine seq (sg (mv rfl (mv rfl (co (Ev.lss_i (.t rfl) (.t rfl)) ?_))))
  refine nP ?_
  first | refine condD rfl (fun h0 => ?_) (fun h0 => ?_) | refine cond rfl (fun h0 => ?_) (fun h0 => ?_)
  · try simp only [nb] at h0
    refine skip (pN (seq (block (region (co (fA 0 (.t rfl)) ?_)))))
    refine co (Ev.to (v' := o1.v) (Ev.ldv ty22 (.t rfl) SConf.l_ports) (rfl)) ?_
    refine mv rfl (cons (buildSlice (E := iE) Tryz.underlying22 ty3 z3 (.cons (.t rfl) .nil) rfl rfl (fun v3 => ?_)))
    refine cons (app (E := iE) Tryz.underlying22 ty3 zb3 zs3 (.t rfl) (.t rfl) (fun v4 => ?_) (hby := zp))
    refine co (fA 0 (.t rfl)) ?_
    refine cons (stv ty22 SConf.l_ports (.t rfl) (.t rfl) ?_)
    refine nil (bN (pN (region (mv rfl (co (Ev.add_i (.t rfl) (.c (v := I 1) rfl) (fun _ => zo)) ?_)))))
    refine asn rfl (nP (nxP (X := Int × OV) (i0 + 1, _) ?_ ?_ (hL := (by rw [range_stepI hi0.1]; repeat first | exact SubP.nil | refine SubP.cons zr ?_))))
    · try dsimp only
      omega
    · try dsimp only
      omega
  · try simp only [nb] at h0
    refine exit (pX (pX (bX (pN (seq (seq ?_))))))
    have e0 : i0.toNat = a := by omega
    rw [e0]
    refine takeNil eRoute 52 ?_
    refine region (co (Ev.assign (.c (v := I 0) rfl)) ?_)
    refine nP (block (lp (X := Int × OV) (fun x : Int × OV => (0 ≤ x.1 ∧ x.1 ≤ b)) (fun x : Int × OV => [(1, true, I (b : Nat)), (2, true, I (c : Nat)), (3, true, I (d : Nat)), (4, true, I (e : Nat)), (10, true, .pointer (some ⟨b1, 0, none⟩)), (11, true, .pointer (some ⟨b2, 0, none⟩)), (12, true, (clo 104 []).v), (14, true, I x.1)]) (fun x : Int × OV => [OwnS x.2.v eRoute ((List.range x.1.toNat).map roN) 52, OwnS o1.v iE ((List.range a).map (fun k : Nat => (k : Int))) 3, Var b2 eConf (⟨o1, x.2, nilSl, nilSl, nilSl, 4⟩ : SConf) 28, Var b1 eConf eConf.zero 28]) (fun x : Int × OV => ((b : Int) - x.1).toNat) (0, nilSl) ?_ (fun x hx => ?_)))
    · omega
    obtain ⟨i1, o2⟩ := x
    have hi1 : 0 ≤ i1 ∧ i1 ≤ b := hx
    clear hx
    show Sat _ _ [(1, true, I (b : Nat)), (2, true, I (c : Nat)), (3, true, I (d : Nat)), (4, true, I (e : Nat)), (10, true, .pointer (some ⟨b1, 0, none⟩)), (11, true, .pointer (some ⟨b2, 0, none⟩)), (12, true, (clo 104 []).v), (14, true, I i1)] [OwnS o2.v eRoute ((List.range i1.toNat).map roN) 52, OwnS o1.v iE ((List.range a).map (fun k : Nat => (k : Int))) 3, Var b2 eConf (⟨o1, o2, nilSl, nilSl, nilSl, 4⟩ : SConf) 28, Var b1 eConf eConf.zero 28]
    have hq1 : ((List.range i1.toNat).map roN).length ≤ 2000 := by rw [List.length_map, List.length_range]; omega
    refine seq (sg (mv rfl (mv rfl (co (Ev.lss_i (.t rfl) (.t rfl)) ?_))))
    refine nP ?_
    first | refine condD rfl (fun h1 => ?_) (fun h1 => ?_) | refine cond rfl (fun h1 => ?_) (fun h1 => ?_)
    · try simp only [nb] at h1
      refine skip (pN (seq (block (region (co (fA 1 (.t rfl)) ?_)))))
      refine co (Ev.to (v' := o2.v) (Ev.ldv ty23 (.t rfl) SConf.l_routes) (rfl)) ?_
      refine mv rfl (co (Ev.quo_n (.t rfl) (.c (v := I 256) rfl) (fun _ => zo) (fun _ => zo) (fun _ => zo)) ?_)
      refine co (Ev.conv_i_u8 Tryz.underlying5 Tryz.underlying3 (.t rfl)) ?_
      refine mv rfl (co (Ev.conv_i_u8 Tryz.underlying5 Tryz.underlying3 (.t rfl)) ?_)
      refine co (Ev.buildA z46 Tryz.underlying46 ty5 (.cons (.c (v := U8 10) rfl) (.cons (.t rfl) (.cons (.t rfl) .nil))) (Fills.cons (lArr u8E 0 (by decide)) rfl (Fills.cons (lArr u8E 1 (by decide)) rfl (Fills.cons (lArr u8E 2 (by decide)) rfl Fills.nil)))) ?_
      refine co (Ev.buildS (fs := _) (places := [(0, 1), (1, 16)]) z48 rfl Tryz.underlying48 zk (.cons (.t rfl) .nil) (Fills.cons SAddr.l_b rfl Fills.nil)) ?_
      refine co (Ev.buildS (fs := _) (places := [(0, 17), (17, 1)]) z50 rfl Tryz.underlying50 zk (.cons (.t rfl) (.cons (.c (v := I 24) rfl) .nil)) (Fills.cons SPrefix.l_addr rfl (Fills.cons SPrefix.l_bits rfl Fills.nil))) ?_
      refine co (Ev.to (v' := eRoute.val (roN i1.toNat)) (Ev.buildS (fs := _) (places := [(0, 18), (18, 1)]) z52 rfl Tryz.underlying52 zk (.cons (.t rfl) .nil) (Fills.cons SRoute.l_to_ rfl Fills.nil)) (congrArg eRoute.val (roN_of hi1.1))) ?_
      refine cons (buildSlice (E := eRoute) Tryz.underlying23 ty52 z52 (.cons (.t rfl) .nil) rfl rfl (fun v5 => ?_))
      refine cons (app (E := eRoute) Tryz.underlying23 ty52 zb52 zs52 (.t rfl) (.t rfl) (fun v6 => ?_) (hby := zp))
      refine co (fA 1 (.t rfl)) ?_
      refine cons (stv ty23 SConf.l_routes (.t rfl) (.t rfl) ?_)
      refine nil (bN (pN (region (mv rfl (co (Ev.add_i (.t rfl) (.c (v := I 1) rfl) (fun _ => zo)) ?_)))))
      refine asn rfl (nP (nxP (X := Int × OV) (i1 + 1, _) ?_ ?_ (hL := (by rw [range_step _ hi1.1]; repeat first | exact SubP.nil | refine SubP.cons zr ?_))))
      · try dsimp only
        omega
      · try dsimp only
        omega
    · try simp only [nb] at h1
      refine exit (pX (pX (bX (pN (seq (seq ?_))))))
      have e1 : i1.toNat = b := by omega
      rw [e1]
      refine takeNil eRule 76 ?_
      refine region (co (Ev.assign (.c (v := I 0) rfl)) ?_)
      refine nP (block (lp (X := Int × OV) (fun x : Int × OV => (0 ≤ x.1 ∧ x.1 ≤ c)) (fun x : Int × OV => [(2, true, I (c : Nat)), (3, true, I (d : Nat)), (4, true, I (e : Nat)), (10, true, .pointer (some ⟨b1, 0, none⟩)), (11, true, .pointer (some ⟨b2, 0, none⟩)), (12, true, (clo 104 []).v), (15, true, I x.1)]) (fun x : Int × OV => [OwnS x.2.v eRule ((List.range x.1.toNat).map ruN) 76, OwnS o2.v eRoute ((List.range b).map roN) 52, OwnS o1.v iE ((List.range a).map (fun k : Nat => (k : Int))) 3, Var b2 eConf (⟨o1, o2, x.2, nilSl, nilSl, 4⟩ : SConf) 28, Var b1 eConf eConf.zero 28]) (fun x : Int × OV => ((c : Int) - x.1).toNat) (0, nilSl) ?_ (fun x hx => ?_)))
      · omega
      obtain ⟨i2, o3⟩ := x
      have hi2 : 0 ≤ i2 ∧ i2 ≤ c := hx
      clear hx
      show Sat _ _ [(2, true, I (c : Nat)), (3, true, I (d : Nat)), (4, true, I (e : Nat)), (10, true, .pointer (some ⟨b1, 0, none⟩)), (11, true, .pointer (some ⟨b2, 0, none⟩)), (12, true, (clo 104 []).v), (15, true, I i2)] [OwnS o3.v eRule ((List.range i2.toNat).map ruN) 76, OwnS o2.v eRoute ((List.range b).map roN) 52, OwnS o1.v iE ((List.range a).map (fun k : Nat => (k : Int))) 3, Var b2 eConf (⟨o1, o2, o3, nilSl, nilSl, 4⟩ : SConf) 28, Var b1 eConf eConf.zero 28]
      have hq2 : ((List.range i2.toNat).map ruN).length ≤ 2000 := by rw [List.length_map, List.length_range]; omega
      refine seq (sg (mv rfl (mv rfl (co (Ev.lss_i (.t rfl) (.t rfl)) ?_))))
      refine nP ?_
      first | refine condD rfl (fun h2 => ?_) (fun h2 => ?_) | refine cond rfl (fun h2 => ?_) (fun h2 => ?_)
      · try simp only [nb] at h2
        refine skip (pN (seq (block (draw [Var b1 eConf eConf.zero 28] zk ?_))))
        refine tk 0 rfl (fA 2 (.t rfl)) ?_
        refine tk 2 rfl (Ev.move (.t rfl)) ?_
        refine tk 3 rfl (Ev.move (.t rfl)) ?_
        refine all [1, 4] zk (by decide) (.cons rfl ?_ (.cons rfl ?_ .nil))
        · refine (opv (Ev.to (v' := o3.v) (Ev.ldv ty24 (.t rfl) SConf.l_rules) (rfl)) ?_)
          refine hdn (al1 4 rfl ((callcv (.t rfl) en104 (.cons (.t rfl) .nil) (fun w I => many1_ok i2 w (by omega)) ?_)))
          refine hdn (tk 5 rfl (Ev.buildS (fs := _) (places := [(0, 1), (1, 44), (45, 1), (46, 1), (47, 1), (48, 1)]) z76 rfl Tryz.underlying76 zk (.cons (.t rfl) (.cons (.c (v := I 2) rfl) .nil)) (Fills.cons SRule.l_name rfl (Fills.cons SRule.l_action rfl Fills.nil))) ?_)
          refine al1 6 rfl ((buildSlice (E := eRule) Tryz.underlying24 ty76 z76 (.cons (.t rfl) .nil) rfl rfl (fun v7 => ?_)))
          refine hdn (al1 7 rfl ((app (E := eRule) Tryz.underlying24 ty76 zb76 zs76 (.t rfl) (.t rfl) (fun v8 => ?_) (hby := zp))))
          refine hdn (tk 8 rfl (fA 2 (.t rfl)) ?_)
          refine al1 9 rfl ((stv ty24 SConf.l_rules (.t rfl) (.t rfl) ?_))
          refine hdn (ovr (bN (pN (region (mv rfl (co (Ev.add_i (.t rfl) (.c (v := I 1) rfl) (fun _ => zo)) ?_))))))
          refine asn rfl (nP (nxP (X := Int × OV) (i2 + 1, _) ?_ ?_ (hL := (by rw [range_step _ hi2.1]; repeat first | exact SubP.nil | refine SubP.cons zr ?_))))
          · try dsimp only
            omega
          · try dsimp only
            omega
        · refine (callcv (.t rfl) en104 (.cons (.t rfl) .nil) (fun w I => many1_ok i2 w (by omega)) ?_)
          refine hdn (tk 5 rfl (Ev.buildS (fs := _) (places := [(0, 1), (1, 44), (45, 1), (46, 1), (47, 1), (48, 1)]) z76 rfl Tryz.underlying76 zk (.cons (.t rfl) (.cons (.c (v := I 2) rfl) .nil)) (Fills.cons SRule.l_name rfl (Fills.cons SRule.l_action rfl Fills.nil))) ?_)
          refine all [1, 6] zk (by decide) (.cons rfl ?_ (.cons rfl ?_ .nil))
          · refine (opv (Ev.to (v' := o3.v) (Ev.ldv ty24 (.t rfl) SConf.l_rules) (rfl)) ?_)
            refine hdn (al1 6 rfl ((buildSlice (E := eRule) Tryz.underlying24 ty76 z76 (.cons (.t rfl) .nil) rfl rfl (fun v9 => ?_))))
            refine hdn (al1 7 rfl ((app (E := eRule) Tryz.underlying24 ty76 zb76 zs76 (.t rfl) (.t rfl) (fun v10 => ?_) (hby := zp))))
            refine hdn (tk 8 rfl (fA 2 (.t rfl)) ?_)
            refine al1 9 rfl ((stv ty24 SConf.l_rules (.t rfl) (.t rfl) ?_))
            refine hdn (ovr (bN (pN (region (mv rfl (co (Ev.add_i (.t rfl) (.c (v := I 1) rfl) (fun _ => zo)) ?_))))))
            refine asn rfl (nP (nxP (X := Int × OV) (i2 + 1, _) ?_ ?_ (hL := (by rw [range_step _ hi2.1]; repeat first | exact SubP.nil | refine SubP.cons zr ?_))))
            · try dsimp only
              omega
            · try dsimp only
              omega
          · refine (buildSlice (E := eRule) Tryz.underlying24 ty76 z76 (.cons (.t rfl) .nil) rfl rfl (fun v11 => ?_))
            refine hdn (al1 1 rfl ((opv (Ev.to (v' := o3.v) (Ev.ldv ty24 (.t rfl) SConf.l_rules) (rfl)) ?_)))
            refine hdn (al1 7 rfl ((app (E := eRule) Tryz.underlying24 ty76 zb76 zs76 (.t rfl) (.t rfl) (fun v12 => ?_) (hby := zp))))
            refine hdn (tk 8 rfl (fA 2 (.t rfl)) ?_)
            refine al1 9 rfl ((stv ty24 SConf.l_rules (.t rfl) (.t rfl) ?_))
            refine hdn (ovr (bN (pN (region (mv rfl (co (Ev.add_i (.t rfl) (.c (v := I 1) rfl) (fun _ => zo)) ?_))))))
            refine asn rfl (nP (nxP (X := Int × OV) (i2 + 1, _) ?_ ?_ (hL := (by rw [range_step _ hi2.1]; repeat first | exact SubP.nil | refine SubP.cons zr ?_))))
            · try dsimp only
              omega
            · try dsimp only
              omega
      · try simp only [nb] at h2
        refine exit (pX (pX (bX (pN (seq (seq ?_))))))
        have e2 : i2.toNat = c := by omega
        rw [e2]
        refine takeNil eMeterConf 57 ?_
        refine region (co (Ev.assign (.c (v := I 0) rfl)) ?_)
        refine nP (block (lp (X := Int × OV) (fun x : Int × OV => (0 ≤ x.1 ∧ x.1 ≤ d)) (fun x : Int × OV => [(3, true, I (d : Nat)), (4, true, I (e : Nat)), (10, true, .pointer (some ⟨b1, 0, none⟩)), (11, true, .pointer (some ⟨b2, 0, none⟩)), (12, true, (clo 104 []).v), (16, true, I x.1)]) (fun x : Int × OV => [OwnS x.2.v eMeterConf ((List.range x.1.toNat).map meN) 57, OwnS o3.v eRule ((List.range c).map ruN) 76, OwnS o2.v eRoute ((List.range b).map roN) 52, OwnS o1.v iE ((List.range a).map (fun k : Nat => (k : Int))) 3, Var b2 eConf (⟨o1, o2, o3, x.2, nilSl, 4⟩ : SConf) 28, Var b1 eConf eConf.zero 28]) (fun x : Int × OV => ((d : Int) - x.1).toNat) (0, nilSl) ?_ (fun x hx => ?_)))
        · omega
        obtain ⟨i3, o4⟩ := x
        have hi3 : 0 ≤ i3 ∧ i3 ≤ d := hx
        clear hx
        show Sat _ _ [(3, true, I (d : Nat)), (4, true, I (e : Nat)), (10, true, .pointer (some ⟨b1, 0, none⟩)), (11, true, .pointer (some ⟨b2, 0, none⟩)), (12, true, (clo 104 []).v), (16, true, I i3)] [OwnS o4.v eMeterConf ((List.range i3.toNat).map meN) 57, OwnS o3.v eRule ((List.range c).map ruN) 76, OwnS o2.v eRoute ((List.range b).map roN) 52, OwnS o1.v iE ((List.range a).map (fun k : Nat => (k : Int))) 3, Var b2 eConf (⟨o1, o2, o3, o4, nilSl, 4⟩ : SConf) 28, Var b1 eConf eConf.zero 28]
        have hq3 : ((List.range i3.toNat).map meN).length ≤ 2000 := by rw [List.length_map, List.length_range]; omega
        refine seq (sg (mv rfl (mv rfl (co (Ev.lss_i (.t rfl) (.t rfl)) ?_))))
        refine nP ?_
        first | refine condD rfl (fun h3 => ?_) (fun h3 => ?_) | refine cond rfl (fun h3 => ?_) (fun h3 => ?_)
        · try simp only [nb] at h3
          refine skip (pN (seq (block (draw [Var b1 eConf eConf.zero 28] zk ?_))))
          refine tk 0 rfl (fA 3 (.t rfl)) ?_
          refine tk 2 rfl (Ev.move (.t rfl)) ?_
          refine tk 3 rfl (Ev.move (.t rfl)) ?_
          refine tk 5 rfl (Ev.buildS (fs := _) (places := [(0, 1), (1, 1), (2, 1)]) z55 rfl Tryz.underlying55 zk (.cons (.c (v := U64 1) rfl) (.cons (.c (v := U64 1) rfl) (.cons (.c (v := U64 1) rfl) .nil))) (Fills.cons SBucket.l_num rfl (Fills.cons SBucket.l_den rfl (Fills.cons SBucket.l_burst rfl Fills.nil)))) ?_
          refine all [1, 4] zk (by decide) (.cons rfl ?_ (.cons rfl ?_ .nil))
          · refine (opv (Ev.to (v' := o4.v) (Ev.ldv ty25 (.t rfl) SConf.l_meters) (rfl)) ?_)
            refine hdn (al1 4 rfl ((callcv (.t rfl) en104 (.cons (.t rfl) .nil) (fun w I => many1_ok i3 w (by omega)) ?_)))
            refine hdn (tk 6 rfl (Ev.buildS (fs := _) (places := [(0, 1), (1, 3)]) z57 rfl Tryz.underlying57 zk (.cons (.t rfl) (.cons (.t rfl) .nil)) (Fills.cons SMeterConf.l_name rfl (Fills.cons SMeterConf.l_bucket rfl Fills.nil))) ?_)
            refine al1 7 rfl ((buildSlice (E := eMeterConf) Tryz.underlying25 ty57 z57 (.cons (.t rfl) .nil) rfl rfl (fun v13 => ?_)))
            refine hdn (al1 8 rfl ((app (E := eMeterConf) Tryz.underlying25 ty57 zb57 zs57 (.t rfl) (.t rfl) (fun v14 => ?_) (hby := zp))))
            refine hdn (tk 9 rfl (fA 3 (.t rfl)) ?_)
            refine al1 10 rfl ((stv ty25 SConf.l_meters (.t rfl) (.t rfl) ?_))
            refine hdn (ovr (bN (pN (region (mv rfl (co (Ev.add_i (.t rfl) (.c (v := I 1) rfl) (fun _ => zo)) ?_))))))
            refine asn rfl (nP (nxP (X := Int × OV) (i3 + 1, _) ?_ ?_ (hL := (by rw [range_step _ hi3.1]; repeat first | exact SubP.nil | refine SubP.cons zr ?_))))
            · try dsimp only
              omega
            · try dsimp only
              omega
          · refine (callcv (.t rfl) en104 (.cons (.t rfl) .nil) (fun w I => many1_ok i3 w (by omega)) ?_)
            refine hdn (tk 6 rfl (Ev.buildS (fs := _) (places := [(0, 1), (1, 3)]) z57 rfl Tryz.underlying57 zk (.cons (.t rfl) (.cons (.t rfl) .nil)) (Fills.cons SMeterConf.l_name rfl (Fills.cons SMeterConf.l_bucket rfl Fills.nil))) ?_)
            refine all [1, 7] zk (by decide) (.cons rfl ?_ (.cons rfl ?_ .nil))
            · refine (opv (Ev.to (v' := o4.v) (Ev.ldv ty25 (.t rfl) SConf.l_meters) (rfl)) ?_)
              refine hdn (al1 7 rfl ((buildSlice (E := eMeterConf) Tryz.underlying25 ty57 z57 (.cons (.t rfl) .nil) rfl rfl (fun v15 => ?_))))
              refine hdn (al1 8 rfl ((app (E := eMeterConf) Tryz.underlying25 ty57 zb57 zs57 (.t rfl) (.t rfl) (fun v16 => ?_) (hby := zp))))
              refine hdn (tk 9 rfl (fA 3 (.t rfl)) ?_)
              refine al1 10 rfl ((stv ty25 SConf.l_meters (.t rfl) (.t rfl) ?_))
              refine hdn (ovr (bN (pN (region (mv rfl (co (Ev.add_i (.t rfl) (.c (v := I 1) rfl) (fun _ => zo)) ?_))))))
              refine asn rfl (nP (nxP (X := Int × OV) (i3 + 1, _) ?_ ?_ (hL := (by rw [range_step _ hi3.1]; repeat first | exact SubP.nil | refine SubP.cons zr ?_))))
              · try dsimp only
                omega
              · try dsimp only
                omega
            · refine (buildSlice (E := eMeterConf) Tryz.underlying25 ty57 z57 (.cons (.t rfl) .nil) rfl rfl (fun v17 => ?_))
              refine hdn (al1 1 rfl ((opv (Ev.to (v' := o4.v) (Ev.ldv ty25 (.t rfl) SConf.l_meters) (rfl)) ?_)))
              refine hdn (al1 8 rfl ((app (E := eMeterConf) Tryz.underlying25 ty57 zb57 zs57 (.t rfl) (.t rfl) (fun v18 => ?_) (hby := zp))))
              refine hdn (tk 9 rfl (fA 3 (.t rfl)) ?_)
              refine al1 10 rfl ((stv ty25 SConf.l_meters (.t rfl) (.t rfl) ?_))
              refine hdn (ovr (bN (pN (region (mv rfl (co (Ev.add_i (.t rfl) (.c (v := I 1) rfl) (fun _ => zo)) ?_))))))
              refine asn rfl (nP (nxP (X := Int × OV) (i3 + 1, _) ?_ ?_ (hL := (by rw [range_step _ hi3.1]; repeat first | exact SubP.nil | refine SubP.cons zr ?_))))
              · try dsimp only
                omega
              · try dsimp only
                omega
        · try simp only [nb] at h3
          refine exit (pX (pX (bX (pN (seq (seq ?_))))))
          have e3 : i3.toNat = d := by omega
          rw [e3]
          refine takeNil eMirrorConf 59 ?_
          refine region (co (Ev.assign (.c (v := I 0) rfl)) ?_)
          refine nP (block (lp (X := Int × OV) (fun x : Int × OV => (0 ≤ x.1 ∧ x.1 ≤ e)) (fun x : Int × OV => [(4, true, I (e : Nat)), (10, true, .pointer (some ⟨b1, 0, none⟩)), (11, true, .pointer (some ⟨b2, 0, none⟩)), (12, true, (clo 104 []).v), (17, true, I x.1)]) (fun x : Int × OV => [OwnS x.2.v eMirrorConf ((List.range x.1.toNat).map miN) 59, OwnS o4.v eMeterConf ((List.range d).map meN) 57, OwnS o3.v eRule ((List.range c).map ruN) 76, OwnS o2.v eRoute ((List.range b).map roN) 52, OwnS o1.v iE ((List.range a).map (fun k : Nat => (k : Int))) 3, Var b2 eConf (⟨o1, o2, o3, o4, x.2, 4⟩ : SConf) 28, Var b1 eConf eConf.zero 28]) (fun x : Int × OV => ((e : Int) - x.1).toNat) (0, nilSl) ?_ (fun x hx => ?_)))
          · omega
          obtain ⟨i4, o5⟩ := x
          have hi4 : 0 ≤ i4 ∧ i4 ≤ e := hx
          clear hx
          show Sat _ _ [(4, true, I (e : Nat)), (10, true, .pointer (some ⟨b1, 0, none⟩)), (11, true, .pointer (some ⟨b2, 0, none⟩)), (12, true, (clo 104 []).v), (17, true, I i4)] [OwnS o5.v eMirrorConf ((List.range i4.toNat).map miN) 59, OwnS o4.v eMeterConf ((List.range d).map meN) 57, OwnS o3.v eRule ((List.range c).map ruN) 76, OwnS o2.v eRoute ((List.range b).map roN) 52, OwnS o1.v iE ((List.range a).map (fun k : Nat => (k : Int))) 3, Var b2 eConf (⟨o1, o2, o3, o4, o5, 4⟩ : SConf) 28, Var b1 eConf eConf.zero 28]
          have hq4 : ((List.range i4.toNat).map miN).length ≤ 2000 := by rw [List.length_map, List.length_range]; omega
          have hpw := pow10 (i4 % 10).toNat (by omega)
          refine seq (sg (mv rfl (mv rfl (co (Ev.lss_i (.t rfl) (.t rfl)) ?_))))
          refine nP ?_
          first | refine condD rfl (fun h4 => ?_) (fun h4 => ?_) | refine cond rfl (fun h4 => ?_) (fun h4 => ?_)
          · try simp only [nb] at h4
            refine skip (pN (seq (block (draw [Var b1 eConf eConf.zero 28] zk ?_))))
            refine tk 0 rfl (fA 4 (.t rfl)) ?_
            refine tk 2 rfl (Ev.move (.t rfl)) ?_
            refine tk 3 rfl (Ev.move (.t rfl)) ?_
            refine tk 5 rfl (Ev.move (.t rfl)) ?_
            refine tk 6 rfl (Ev.rem_n (.t rfl) (.c (v := I 10) rfl) (fun _ => zo) (fun _ => zo)) ?_
            refine tk 7 rfl (Ev.to (v' := I (2 * 2 ^ (i4.toNat % 10))) (Ev.shl_i (.c (v := I 2) rfl) (.t rfl) (fun _ => zo) (fun _ => zo)) (congrArg I (shl_of hi4.1))) ?_
            refine all [1, 4] zk (by decide) (.cons rfl ?_ (.cons rfl ?_ .nil))
            · refine (opv (Ev.to (v' := o5.v) (Ev.ldv ty26 (.t rfl) SConf.l_mirrors) (rfl)) ?_)
              refine hdn (al1 4 rfl ((callcv (.t rfl) en104 (.cons (.t rfl) .nil) (fun w I => many1_ok i4 w (by omega)) ?_)))
              refine hdn (tk 8 rfl (Ev.buildS (fs := _) (places := [(0, 1), (1, 1), (2, 1)]) z59 rfl Tryz.underlying59 zk (.cons (.t rfl) (.cons (.t rfl) .nil)) (Fills.cons SMirrorConf.l_name rfl (Fills.cons SMirrorConf.l_room rfl Fills.nil))) ?_)
              refine al1 9 rfl ((buildSlice (E := eMirrorConf) Tryz.underlying26 ty59 z59 (.cons (.t rfl) .nil) rfl rfl (fun v19 => ?_)))
              refine hdn (al1 10 rfl ((app (E := eMirrorConf) Tryz.underlying26 ty59 zb59 zs59 (.t rfl) (.t rfl) (fun v20 => ?_) (hby := zp))))
              refine hdn (tk 11 rfl (fA 4 (.t rfl)) ?_)
              refine al1 12 rfl ((stv ty26 SConf.l_mirrors (.t rfl) (.t rfl) ?_))
              refine hdn (ovr (bN (pN (region (mv rfl (co (Ev.add_i (.t rfl) (.c (v := I 1) rfl) (fun _ => zo)) ?_))))))
              refine asn rfl (nP (nxP (X := Int × OV) (i4 + 1, _) ?_ ?_ (hL := (by rw [range_step _ hi4.1]; repeat first | exact SubP.nil | refine SubP.cons zr ?_))))
              · try dsimp only
                omega
              · try dsimp only
                omega
            · refine (callcv (.t rfl) en104 (.cons (.t rfl) .nil) (fun w I => many1_ok i4 w (by omega)) ?_)
              refine hdn (tk 8 rfl (Ev.buildS (fs := _) (places := [(0, 1), (1, 1), (2, 1)]) z59 rfl Tryz.underlying59 zk (.cons (.t rfl) (.cons (.t rfl) .nil)) (Fills.cons SMirrorConf.l_name rfl (Fills.cons SMirrorConf.l_room rfl Fills.nil))) ?_)
              refine all [1, 9] zk (by decide) (.cons rfl ?_ (.cons rfl ?_ .nil))
              · refine (opv (Ev.to (v' := o5.v) (Ev.ldv ty26 (.t rfl) SConf.l_mirrors) (rfl)) ?_)
                refine hdn (al1 9 rfl ((buildSlice (E := eMirrorConf) Tryz.underlying26 ty59 z59 (.cons (.t rfl) .nil) rfl rfl (fun v21 => ?_))))
                refine hdn (al1 10 rfl ((app (E := eMirrorConf) Tryz.underlying26 ty59 zb59 zs59 (.t rfl) (.t rfl) (fun v22 => ?_) (hby := zp))))
                refine hdn (tk 11 rfl (fA 4 (.t rfl)) ?_)
                refine al1 12 rfl ((stv ty26 SConf.l_mirrors (.t rfl) (.t rfl) ?_))
                refine hdn (ovr (bN (pN (region (mv rfl (co (Ev.add_i (.t rfl) (.c (v := I 1) rfl) (fun _ => zo)) ?_))))))
                refine asn rfl (nP (nxP (X := Int × OV) (i4 + 1, _) ?_ ?_ (hL := (by rw [range_step _ hi4.1]; repeat first | exact SubP.nil | refine SubP.cons zr ?_))))
                · try dsimp only
                  omega
                · try dsimp only
                  omega
              · refine (buildSlice (E := eMirrorConf) Tryz.underlying26 ty59 z59 (.cons (.t rfl) .nil) rfl rfl (fun v23 => ?_))
                refine hdn (al1 1 rfl ((opv (Ev.to (v' := o5.v) (Ev.ldv ty26 (.t rfl) SConf.l_mirrors) (rfl)) ?_)))
                refine hdn (al1 10 rfl ((app (E := eMirrorConf) Tryz.underlying26 ty59 zb59 zs59 (.t rfl) (.t rfl) (fun v24 => ?_) (hby := zp))))
                refine hdn (tk 11 rfl (fA 4 (.t rfl)) ?_)
                refine al1 12 rfl ((stv ty26 SConf.l_mirrors (.t rfl) (.t rfl) ?_))
                refine hdn (ovr (bN (pN (region (mv rfl (co (Ev.add_i (.t rfl) (.c (v := I 1) rfl) (fun _ => zo)) ?_))))))
                refine asn rfl (nP (nxP (X := Int × OV) (i4 + 1, _) ?_ ?_ (hL := (by rw [range_step _ hi4.1]; repeat first | exact SubP.nil | refine SubP.cons zr ?_))))
                · try dsimp only
                  omega
                · try dsimp only
                  omega
          · try simp only [nb] at h4
            refine exit (pX (pX (bX (pN (seq ?_)))))
            have e4 : i4.toNat = e := by omega
            rw [e4]
            refine region (co (Ev.ldv ty28 (.t rfl) (Lens.id _)) ?_)
            refine cons (stv ty28 (Lens.id _) (.t rfl) (.t rfl) ?_)
            refine nP (ret (done rfl (.cell rfl (fun w I => run_loadVar_pts ty28 (ptsVar zm (Lens.id _) w I)) .nil) (fun w I => ?_)))
            exact retNP (⟨o1, o2, o3, o4, o5⟩ : CB) trivial rfl (by repeat first | exact SubP.nil | refine SubP.cons zr ?_) w I
theorem map_getD {α : Type} (f : Nat → α) (n k : Nat) (z : α) (h : k < n) : ((List.range n).map f).getD k z = f k := by
  simp [List.getD, h]
theorem first_map {α κ : Type} {q : κ → κ → Bool} (hi : ∀ x y, q x y = true ↔ x = y) (g : α → κ) (f : Nat → α) (n k : Nat) (h : k < n) (hu : ∀ j, j < k → g (f j) ≠ g (f k)) : ¬ ((findV q (g (f k)) (firstN q g ((List.range n).map f) ((List.range n).map f).length)).getD 0 < (k : Int)) := by
  rw [find_first hi g _ _ _ (Nat.le_refl _), List.take_length]
  have h1 : ((List.range n).map f).findIdx? (fun x => q (g x) (g (f k))) = some k := by
    rw [List.findIdx?_eq_some_iff_getElem]
    refine ⟨by simpa using h, ?_, fun j hj => ?_⟩
    · simp [hi]
    · simp only [List.getElem_map, List.getElem_range]
      intro hq
      exact hu j hj ((hi _ _).1 hq)
  rw [h1]
  simp
theorem byN_inj {x y : Nat} (h : byN x = byN y) : x % 16 = y % 16 := by
  have key : ∀ p q : Fin 16, UInt8.ofInt (97 + ((p.val : Nat) : Int)) = UInt8.ofInt (97 + ((q.val : Nat) : Int)) → p = q := by decide +kernel
  have := key ⟨x % 16, by omega⟩ ⟨y % 16, by omega⟩ h
  simpa using this
theorem nameN_inj {j k : Nat} (hj : j < 4096) (hk : k < 4096) (h : nameN j = nameN k) : j = k := by
  have h1 : (nameN j).data.toList = (nameN k).data.toList := by rw [h]
  have e : ∀ m, (nameN m).data.toList = [110, byN (m / 256), byN (m / 16), byN m] := fun m => rfl
  rw [e, e] at h1
  simp only [List.cons.injEq, and_true, true_and] at h1
  obtain ⟨a, b, c⟩ := h1
  have a1 := byN_inj a
  have b1 := byN_inj b
  have c1 := byN_inj c
  omega
theorem u8_inj {x y : Nat} (hx : x < 256) (hy : y < 256) (h : UInt8.ofInt (x : Int) = UInt8.ofInt (y : Int)) : x = y := by
  have key : ∀ p q : Fin 256, UInt8.ofInt ((p.val : Nat) : Int) = UInt8.ofInt ((q.val : Nat) : Int) → p = q := by decide +kernel
  have := key ⟨x, hx⟩ ⟨y, hy⟩ h
  simpa using this
theorem u8_mod (x : Nat) : UInt8.ofInt (x : Int) = UInt8.ofInt ((x % 256 : Nat) : Int) := by
  apply UInt8.eq_of_toBitVec_eq
  apply BitVec.eq_of_toNat_eq
  simp [UInt8.ofInt]
theorem roN_inj {j k : Nat} (hj : j < 65536) (hk : k < 65536) (h : (roN j).to_ = (roN k).to_) : j = k := by
  have h1 : (roN j).to_.addr.b = (roN k).to_.addr.b := by rw [h]
  have a : (roN j).to_.addr.b[1] = (roN k).to_.addr.b[1] := by rw [h1]
  have b : (roN j).to_.addr.b[2] = (roN k).to_.addr.b[2] := by rw [h1]
  have a2 : UInt8.ofInt ((j / 256 : Nat) : Int) = UInt8.ofInt ((k / 256 : Nat) : Int) := by simpa [roN] using a
  have b2 : UInt8.ofInt (j : Int) = UInt8.ofInt (k : Int) := by simpa [roN] using b
  rw [u8_mod j, u8_mod k] at b2
  have a3 := u8_inj (by omega) (by omega) a2
  have b3 := u8_inj (by omega) (by omega) b2
  omega
theorem roN_may : (List.range 1024).all (fun k => decide (checkP (roN k).to_ = 0)) = true := by decide +kernel
theorem nameN_may : (List.range 257).all (fun k => nameB (nameN k)) = true := by decide +kernel
theorem room_may (k : Nat) : roomB (2 * 2 ^ (k % 10)) = true := by
  have h : k % 10 < 10 := Nat.mod_lt _ (by decide)
  generalize k % 10 = m at h
  rcases (by omega : m = 0 ∨ m = 1 ∨ m = 2 ∨ m = 3 ∨ m = 4 ∨ m = 5 ∨ m = 6 ∨ m = 7 ∨ m = 8 ∨ m = 9) with rfl | rfl | rfl | rfl | rfl | rfl | rfl | rfl | rfl | rfl <;> decide +kernel
def overF (n lim : Nat) (base : Int) : List SFault := if lim < n then [⟨4, base + lim⟩] else []
theorem listG_over {e : Nat → Int} {d : Int} {n most : Nat} (h : ∀ i, i < n → i < most → e i = 0) : listG e d n most = overF n most d := by
  unfold listG overF
  rw [faultsUp_z (fun i hi => h i (by omega) (by omega)), List.nil_append]
theorem port_many {a b c d e : Nat} (h : 1 ≤ a) : portB (manyL a b c d e) 0 = true := by
  have h1 := none_port (manyL a b c d e) 0
  have h2 : (findV eqd (0 : Int) (portsM (manyL a b c d e))).isSome = true := by
    unfold portsM
    rw [find_first eqd_iff _ _ _ _ (Nat.le_refl _), List.take_length]
    rw [Option.isSome_map, List.findIdx?_isSome]
    refine List.any_eq_true.2 ⟨0, List.mem_map.2 ⟨0, List.mem_range.2 h, rfl⟩, by decide⟩
  cases hp : portB (manyL a b c d e) 0 with
  | true => rfl
  | false =>
    rw [hp] at h1
    cases hf : findV eqd (0 : Int) (portsM (manyL a b c d e)) with
    | none => rw [hf] at h2; cases h2
    | some x => rw [hf] at h1; cases h1
theorem check_many (a b c d e : Nat) (dd : Int) (h : (b = 0 ∧ e = 0) ∨ 1 ≤ a) (hm : b ≤ 1100 ∧ c ≤ 257 ∧ d ≤ 257 ∧ e ≤ 257) : checkF (manyL a b c d e) dd = (((((([] ++ overF a 256 0) ++ overF b 1024 (0 + (a : Int))) ++ overF c 256 (0 + (a : Int) + b)) ++ overF d 64 (0 + (a : Int) + b + c)) ++ overF e 16 (0 + (a : Int) + b + c + d)) ++ (if defBad dd = true then [⟨2, 0 + (a : Int) + b + c + d + e⟩] else [])) := by
  have e1 : (manyL a b c d e).ps.length = a := by simp [manyL]
  have e2 : (manyL a b c d e).rs.length = b := by simp [manyL]
  have e3 : (manyL a b c d e).us.length = c := by simp [manyL]
  have e4 : (manyL a b c d e).ms.length = d := by simp [manyL]
  have e5 : (manyL a b c d e).xs.length = e := by simp [manyL]
  have hnm : ∀ k, k < 257 → nameB (nameN k) = true := fun k hk => List.all_eq_true.1 nameN_may k (List.mem_range.2 hk)
  have hro : ∀ k, k < 1024 → checkP (roN k).to_ = 0 := fun k hk => of_decide_eq_true (List.all_eq_true.1 roN_may k (List.mem_range.2 hk))
  unfold checkF thingsF
  rw [e1, e2, e3, e4, e5]
  rw [listG_over (n := a), listG_over (n := b), listG_over (n := c), listG_over (n := d), listG_over (n := e)]
  · intro k hk hk2
    rw [show (manyL a b c d e).xs.getD k eMirrorConf.zero = miN k from map_getD miN e k _ hk]
    refine mirrorE_z.2 ⟨hnm k (by omega), port_many (by omega), room_may k, ?_⟩
    exact first_map eqs_iff (fun r : SMirrorConf => r.name) miN e k hk (fun j hj hq => by have := nameN_inj (by omega) (by omega) hq; omega)
  · intro k hk hk2
    rw [show (manyL a b c d e).ms.getD k eMeterConf.zero = meN k from map_getD meN d k _ hk]
    refine meterE_z.2 ⟨hnm k (by omega), (by decide : ckB bkt1 = 0), ?_⟩
    exact first_map eqs_iff (fun r : SMeterConf => r.name) meN d k hk (fun j hj hq => by have := nameN_inj (by omega) (by omega) hq; omega)
  · intro k hk hk2
    rw [show (manyL a b c d e).us.getD k eRule.zero = ruN k from map_getD ruN c k _ hk]
    refine ruleE_z.2 ⟨hnm k (by omega), by show okM eMatch.zero = true; decide +kernel, by show ¬ ((2 : Int) < 1 ∨ (4 : Int) < 2); decide, ?_, ?_, ?_⟩
    · show ¬ ruleO (manyL a b c d e) (ruN k) = true
      unfold ruleO
      rw [if_neg (by show ¬ (2 : Int) = 3; decide)]
      show ¬ decide (¬ (0 : Int) = 0) = true
      decide
    · rintro (g | g)
      · exact g.1 rfl
      · exact g.1 rfl
    · exact first_map eqs_iff (fun r : SRule => r.name) ruN c k hk (fun j hj hq => by have := nameN_inj (by omega) (by omega) hq; omega)
  · intro k hk hk2
    rw [show (manyL a b c d e).rs.getD k eRoute.zero = roN k from map_getD roN b k _ hk]
    refine routeE_z.2 ⟨hro k hk2, port_many (by omega), ?_⟩
    exact first_map SPrefix.eqb_iff (fun r : SRoute => r.to_) roN b k hk (fun j hj hq => by have := roN_inj (by omega) (by omega) hq; omega)
  · intro k hk hk2
    rw [show (manyL a b c d e).ps.getD k iE.zero = ((k : Nat) : Int) from map_getD (fun k : Nat => (k : Int)) a k _ hk]
    unfold portE
    rw [if_neg (by omega), if_neg]
    rintro ⟨g1, g2⟩
    have e9 : ((k : Int) - 1).toNat = k - 1 := by omega
    rw [e9, show (manyL a b c d e).ps.getD (k - 1) 0 = (((k - 1 : Nat)) : Int) from map_getD (fun k : Nat => (k : Int)) a (k - 1) _ (by omega)] at g2
    omega
theorem many_names (a b c d e : Nat) : (manyL a b c d e).Names := by
  refine ⟨fun x hx => ?_, fun x hx => ?_, fun x hx => ?_⟩
  · obtain ⟨k, _, rfl⟩ := List.mem_map.1 hx
    show (nameN k).size ≤ _
    rw [nameN_size]
    decide
  · obtain ⟨k, _, rfl⟩ := List.mem_map.1 hx
    show (nameN k).size ≤ _
    rw [nameN_size]
    decide
  · obtain ⟨k, _, rfl⟩ := List.mem_map.1 hx
    show (nameN k).size ≤ _
    rw [nameN_size]
    decide
theorem many_n {a b c d e : Nat} (h : a ≤ 1100 ∧ b ≤ 1100 ∧ c ≤ 1100 ∧ d ≤ 1100 ∧ e ≤ 1100) : (manyL a b c d e).n ≤ 4611686018427387904 := by
  unfold CL.n manyL
  simp only [List.length_map, List.length_range]
  omega
theorem en3 : Gx.Enters Tryz.prog 3 := Gx.Enters.mk' zk
theorem one_ok (c : SConf) (l : CL) (e at_ : Int) (w : World) (hc : ConfAt w c l) (hn : l.Names) (hz : l.n ≤ 4611686018427387904) (hf : checkF l c.default = [⟨e, at_⟩]) : Calls Tryz.prog 35 #[eConf.val c, I e, I at_] w (RetV w (.bool true)) := by
  refine en0 31 Tryz.func35 ?_
  refine sg (cons (box (E := eConf) (.t rfl) (fun b1 => ?_)))
  refine co (Ev.assign (.c (v := .bool false) rfl)) ?_
  refine nP (sg (co (Ev.ldx c ty28 (.t rfl) (Lens.id _)) ?_))
  refine cons (callo en12 (.cons (.t rfl) .nil) (fun w I => conf_check c l w (hc.keep0 I.keeps) hn hz) (fun v2 => ?_))
  refine asn rfl (nP (sg (mv rfl (co (Ev.len Tryz.underlying31 (.t rfl) zf) ?_))))
  refine co (Ev.to (v' := .bool true) (Ev.eql_i (.t rfl) (.c (v := I 1) rfl)) (congrArg Value.bool (decide_eq_true (by rw [hf]; rfl)))) ?_
  refine mv rfl (cg rfl rfl (Ev.move (.t rfl)) ?_)
  refine cg rfl rfl (Ev.indexAddr Tryz.underlying31 ty37 (.g rfl id) (.c (v := I 0) rfl) zf (fun _ => by rw [hf]; simp)) ?_
  refine cg rfl rfl (Ev.loadS0 (i := 0) ty37 (.g rfl id) zf (fun _ => by rw [hf]; simp)) ?_
  refine cg rfl rfl (Ev.move (.t rfl)) ?_
  refine cg rfl rfl (Ev.move (.t rfl)) ?_
  refine cg rfl rfl (Ev.buildS (fs := _) (places := [(0, 1), (1, 1)]) z37 rfl Tryz.underlying37 zk (.cons (.g rfl id) (.cons (.g rfl id) .nil)) (Fills.cons SFault.l_code rfl (Fills.cons SFault.l_at_ rfl Fills.nil))) ?_
  refine cg rfl rfl (Ev.to (v' := .bool true) (Ev.eqlS rfl eqok37 rfl (by kernel_rfl) (.g rfl id) (.g rfl id)) (congrArg Value.bool ((SFault.eqb_iff _ _).2 (by rw [hf]; rfl)))) ?_
  refine co (Ev.to (v' := .bool true) (Ev.pkA (.t rfl) rfl) (rfl)) ?_
  refine mv rfl (cg rfl rfl (Ev.ldx c ty28 (.t rfl) (Lens.id _)) ?_)
  refine cons (callg rfl rfl en15 (.cons (.g rfl id) .nil) (fun hg w I => may_ok c l w (hc.keep0 I.keeps) hn hz) ?_)
  refine cg rfl rfl (Ev.to (v' := .bool true) (Ev.not (.g rfl id)) (congrArg Value.bool (by unfold mayB; rw [hf]; rfl))) ?_
  refine co (Ev.to (v' := .bool true) (Ev.pkA (.t rfl) rfl) (rfl)) ?_
  refine mv rfl (cg rfl rfl (Ev.ldx c ty28 (.t rfl) (Lens.id _)) ?_)
  refine cons (callg rfl rfl en3 (.cons (.g rfl id) .nil) (fun hg w I => ConfChecks_walk c l w (hc.keep0 I.keeps) hn) ?_)
  refine co (Ev.to (v' := .bool true) (Ev.pkA (.t rfl) rfl) (rfl)) ?_
  refine asn rfl (nP (ret (done rfl (.tmp rfl .nil) (retE ?_))))
  rfl
theorem may_to (c : SConf) (l : CL) (w : World) (hc : ConfAt w c l) (hn : l.Names) (hz : l.n ≤ 4611686018427387904) (hm : mayB l c.default = true) : Calls Tryz.prog 15 #[eConf.val c] w (RetV w (.bool true)) := by
  have h := may_ok c l w hc hn hz
  rw [hm] at h
  exact h
theorem check_to (c : SConf) (l : CL) (fs : List SFault) (w : World) (hc : ConfAt w c l) (hn : l.Names) (hz : l.n ≤ 4611686018427387904) (hf : checkF l c.default = fs) : Calls Tryz.prog 12 #[eConf.val c] w (RetO w eFault fs 37) := by
  subst hf
  exact conf_check c l w hc hn hz
theorem same_to (a b : SConf) (l k : CL) (B : Bool) (w : World) (ha : ConfAt w a l) (hb : ConfAt w b k) (hl : l.Small) (hk : k.Small) (hB : sameB l k a.default b.default = B) : Calls Tryz.prog 21 #[eConf.val a, eConf.val b] w (RetV w (.bool B)) := by
  subst hB
  exact same_ok a b l k w ha hb hl hk
theorem apply_to (c : SConf) (l : CL) (u : Value) (x : SChange) (e : Int) (w : World) (hc : ConfAt w c l) (hn : l.Names) (hz : l.n ≤ 4611686018427387904) (hu : IsSl eChange w u [x]) (hx : x.rules = nilSl) (hi : ChsOK [x] [[]]) (he : (applyC ⟨l, c.default⟩ [x] [[]]).1 = e) : Calls Tryz.prog 27 #[eConf.val c, u] w (RetN w (fun _ : CB => True) (fun y => .tuple #[eConf.val (y.c (applyC ⟨l, c.default⟩ [x] [[]]).2.d), I e]) (fun y => y.R (applyC ⟨l, c.default⟩ [x] [[]]).2.l)) := by
  subst he
  refine apply_ok c l u [x] [[]] w hc hn hz hu ⟨fun i hi => ?_⟩ hi
  have hi : i < 1 := hi
  obtain rfl : i = 0 := by omega
  show IsSl _ w x.rules.v []
  rw [hx]
  exact IsSl.nil _ w
def cutP (n : Int) : SChange := { eChange.zero with kind := 2, port := n }
theorem chs_a : ChsOK [cutP 3] [[]] := ⟨by decide, fun i hi => by
  have hi : i < 1 := hi
  obtain rfl : i = 0 := by omega
  decide, fun i hi => by
  have hi : i < 1 := hi
  obtain rfl : i = 0 := by omega
  decide, fun i hi => by
  have hi : i < 1 := hi
  obtain rfl : i = 0 := by omega
  simp⟩
theorem chs_b : ChsOK [cutP 2] [[]] := ⟨by decide, fun i hi => by
  have hi : i < 1 := hi
  obtain rfl : i = 0 := by omega
  decide, fun i hi => by
  have hi : i < 1 := hi
  obtain rfl : i = 0 := by omega
  decide, fun i hi => by
  have hi : i < 1 := hi
  obtain rfl : i = 0 := by omega
  simp⟩
theorem chs_z : ChsOK [eChange.zero] [[]] := ⟨by decide, fun i hi => by
  have hi : i < 1 := hi
  obtain rfl : i = 0 := by omega
  decide, fun i hi => by
  have hi : i < 1 := hi
  obtain rfl : i = 0 := by omega
  decide, fun i hi => by
  have hi : i < 1 := hi
  obtain rfl : i = 0 := by omega
  simp⟩
def L0 : CL := ⟨[], [], [], [], []⟩
def sm1 : CL := { smallL with ps := [2, 1] }
def sm2 : CL := { smallL with rs := [⟨⟨⟨false, (Vector.replicate 16 0).set 0 10⟩, 8⟩, 3⟩], ms := [⟨s1 77, bkt1⟩, ⟨s1 110, bkt1⟩] }
def sm3 : CL := { smallL with ms := [⟨s1 110, bkt1⟩, ⟨s1 109, bkt1⟩] }
def sm4 : CL := { smallL with us := [smallL.us.getD 1 eRule.zero, smallL.us.getD 0 eRule.zero] }
def roomsK : List Int := [-2, 0, 1, 3, 6, 1023, 2048]
def roomL (r : Int) : CL := ⟨[0], [], [], [], [⟨nameN 0, 0, r⟩]⟩
def twiceL : CL := ⟨[0, 0, 2], [], [], [], []⟩
def badL : CL := ⟨[0], [⟨⟨eAddr.zero, 99⟩, 9⟩], [], [], []⟩
theorem k_small : mayB smallL 1 = true := by decide +kernel
theorem k_full : mayB (manyL 256 1024 256 64 16) 4 = true := by
  unfold mayB
  rw [check_many _ _ _ _ _ _ (by omega) (by omega)]
  decide +kernel
theorem k_none : mayB (manyL 0 0 0 0 0) 4 = true := by decide +kernel
theorem k_ones : mayB (manyL 1 1 1 1 1) 4 = true := by decide +kernel
theorem k_1 : checkF (manyL 257 1 1 1 1) 4 = [⟨4, 256⟩] := by
  rw [check_many _ _ _ _ _ _ (by omega) (by omega)]
  decide +kernel
theorem k_2 : checkF (manyL 1 1025 1 1 1) 4 = [⟨4, 1025⟩] := by
  rw [check_many _ _ _ _ _ _ (by omega) (by omega)]
  decide +kernel
theorem k_3 : checkF (manyL 1 1 257 1 1) 4 = [⟨4, 258⟩] := by
  rw [check_many _ _ _ _ _ _ (by omega) (by omega)]
  decide +kernel
theorem k_4 : checkF (manyL 1 1 1 65 1) 4 = [⟨4, 67⟩] := by
  rw [check_many _ _ _ _ _ _ (by omega) (by omega)]
  decide +kernel
theorem k_5 : checkF (manyL 1 1 1 1 17) 4 = [⟨4, 20⟩] := by
  rw [check_many _ _ _ _ _ _ (by omega) (by omega)]
  decide +kernel
theorem k_6 : checkF (manyL 1 1 1 1 40) 4 = [⟨4, 20⟩] := by
  rw [check_many _ _ _ _ _ _ (by omega) (by omega)]
  decide +kernel
theorem k_7 : checkF (manyL 257 1 257 1 1) 3 = [⟨4, 256⟩, ⟨4, 514⟩, ⟨2, 517⟩] := by
  rw [check_many _ _ _ _ _ _ (by omega) (by omega)]
  decide +kernel
theorem k_room (k : Nat) (h : k < 7) : checkF (roomL (roomsK.getD k iE.zero)) 4 = [⟨2, 1⟩] := by
  rcases (by omega : k = 0 ∨ k = 1 ∨ k = 2 ∨ k = 3 ∨ k = 4 ∨ k = 5 ∨ k = 6) with rfl | rfl | rfl | rfl | rfl | rfl | rfl <;> decide +kernel
theorem k_twice : checkF twiceL 4 = [⟨2, 1⟩] := by decide +kernel
theorem k_bad : checkF badL 4 = [⟨151, 1⟩] := by decide +kernel
theorem k_sm1 : checkF sm1 1 = [⟨2, 1⟩] := by decide +kernel
theorem k_sm2 : checkF sm2 1 = [⟨5, 2⟩, ⟨210, 3⟩, ⟨201, 5⟩] := by decide +kernel
theorem k_sm3 : sameB smallL sm3 1 1 = true := by decide +kernel
theorem k_sm4 : sameB smallL sm4 1 1 = false := by decide +kernel
theorem k_spA : spL smallL 1 (spareA smallL) = [1] := by decide +kernel
theorem k_spB : spL smallL 1 (spareB smallL) = [] := by decide +kernel
theorem k_spD : spL smallL 1 (deadB (mtL smallL)) = [1] := by decide +kernel
theorem k_spE : spE smallL 1 = 0 := by decide +kernel
theorem k_a1 : (applyC ⟨smallL, 1⟩ [cutP 3] [[]]).1 = 211 := by kernel_rfl
theorem k_a2 : (applyC ⟨smallL, 1⟩ [cutP 2] [[]]).1 = 210 := by kernel_rfl
theorem k_a3 : (applyC ⟨smallL, 1⟩ [eChange.zero] [[]]).1 = 211 := by kernel_rfl
theorem k_a4 : (applyC ⟨L0, 0⟩ [eChange.zero] [[]]).1 = 210 := by kernel_rfl
theorem spare_w (s : CB) (w : World) (hs : ConfAt w (s.c 1) smallL) : Calls Tryz.prog 29 #[eConf.val (s.c 1)] w (RetN w (fun _ : OV × OV × OV => True) (fun x => .tuple #[x.1.v, x.2.1.v, x.2.2.v, I 0]) (fun x => [OwnS x.1.v iE [1] 3, OwnS x.2.1.v iE [] 3, OwnS x.2.2.v iE [1] 3])) := by
  have h := spare_ok (s.c 1) smallL w hs smallL_names (by rw [smallL_n]; decide)
  rw [show (s.c 1).default = 1 from rfl, k_spA, k_spB, k_spD, k_spE] at h
  exact h
theorem room_names (r : Int) : (roomL r).Names := ⟨fun x hx => (by cases hx), fun x hx => (by cases hx), fun x hx => by
  have e : x = ⟨nameN 0, 0, r⟩ := List.mem_singleton.1 hx
  subst e
  show (nameN 0).size ≤ _
  rw [nameN_size]
  decide⟩
theorem room_n (r : Int) : (roomL r).n ≤ 4611686018427387904 := Nat.le_of_ble_eq_true rfl
theorem apply_k (c : SConf) (l : CL) (u : Value) (x : SChange) (e : Int) (w : World) (hc : ConfAt w c l) (hn : l.Names) (hz : l.n ≤ 4611686018427387904) (hu : IsSl eChange w u [x]) (hx : x.rules = nilSl) (hi : ChsOK [x] [[]]) (he : (applyC ⟨l, c.default⟩ [x] [[]]).1 = e) : Calls Tryz.prog 27 #[eConf.val c, u] w (RetN w (fun _ : CB × CL × Int => True) (fun y => .tuple #[eConf.val (y.1.c y.2.2), I e]) (fun y => y.1.R y.2.1)) := by
  refine (apply_to c l u x e w hc hn hz hu hx hi he).mono fun e1 w1 h => ?_
  obtain ⟨y, h1, h2, h3, h4⟩ := h
  exact ⟨(y, (applyC ⟨l, c.default⟩ [x] [[]]).2.l, (applyC ⟨l, c.default⟩ [x] [[]]).2.d), h1, h2, h3, h4⟩
theorem many_o (a b c d e : Nat) (w : World) (hm : a ≤ 1100 ∧ b ≤ 1100 ∧ c ≤ 1100 ∧ d ≤ 1100 ∧ e ≤ 1100) : Calls Tryz.prog 34 #[I (a : Nat), I (b : Nat), I (c : Nat), I (d : Nat), I (e : Nat)] w (RetN w (fun x : CB × CL => x.2 = manyL a b c d e) (fun x => eConf.val (x.1.c 4)) (fun x => x.1.R x.2)) := by
  refine (many_ok a b c d e w hm).mono fun e1 w1 h => ?_
  obtain ⟨y, h1, h2, h3, h4⟩ := h
  exact ⟨(y, manyL a b c d e), rfl, h2, h3, h4⟩
theorem L0_at (w : World) : ConfAt w eConf.zero L0 := ⟨IsSl.nil _ w, IsSl.nil _ w, IsSl.nil _ w, IsSl.nil _ w, IsSl.nil _ w⟩
theorem en34 : Gx.Enters Tryz.prog 34 := Gx.Enters.mk' zk
theorem en35 : Gx.Enters Tryz.prog 35 := Gx.Enters.mk' zk
theorem en6 : Gx.Enters Tryz.prog 6 := Gx.Enters.mk' zk
set_option maxRecDepth 20000 in
set_option maxHeartbeats 4000000 in
theorem ConfKnown_walk (w : World) : Calls Tryz.prog 9 #[] w (RetV w (.bool true)) := by
  refine en0 306 Tryz.func9 ?_
  refine sg (co (Ev.assign (.c (v := .bool false) rfl)) ?_)
  refine nP (sg (cons (calln (X := CB) (fun _ => True) (fun x => eConf.val (x.c 1)) (fun x => x.R smallL) en33 .nil (fun w I => small_ok w) (fun s1 _ => ?_))))
  refine cons (alloc z28 (fun b1 => ?_))
  refine cons (stv ty28 (Lens.id _) (.t rfl) (.t rfl) ?_)
  refine nP (sg (cons (calln (X := CB × CL) (fun x => x.2 = manyL 256 1024 256 64 16) (fun x => eConf.val (x.1.c 4)) (fun x => x.1.R x.2) en34 (.cons (.c (v := I 256) rfl) (.cons (.c (v := I 1024) rfl) (.cons (.c (v := I 256) rfl) (.cons (.c (v := I 64) rfl) (.cons (.c (v := I 16) rfl) .nil))))) (fun w I => many_o 256 1024 256 64 16 w (by omega)) (fun m1 hm1 => ?_))))
  refine cons (alloc z28 (fun b2 => ?_))
  refine cons (stv ty28 (Lens.id _) (.t rfl) (.t rfl) ?_)
  refine nP (seq (sg (co (Ev.to (v' := eConf.val (s1.c 1)) (Ev.ldv ty28 (.t rfl) (Lens.id _)) (rfl)) ?_)))
  refine cons (callv en15 (.cons (.t rfl) .nil) (fun w I => may_to (s1.c 1) smallL w (co5 (x := s1) (l := smallL) w I) smallL_names (by rw [smallL_n]; decide) k_small) ?_)
  refine co (Ev.not (.t rfl)) ?_
  refine mv rfl (cg rfl rfl (Ev.to (v' := eConf.val (m1.1.c 4)) (Ev.ldv ty28 (.t rfl) (Lens.id _)) (rfl)) ?_)
  refine cons (callg rfl rfl en15 (.cons (.g rfl id) .nil) (fun hg w I => may_to (m1.1.c 4) m1.2 w (co5 (x := m1.1) (l := m1.2) w I) (by rw [hm1]; exact many_names _ _ _ _ _) (by rw [hm1]; exact many_n (by omega)) (by rw [hm1]; exact k_full)) ?_)
  refine cg rfl rfl (Ev.not (.g rfl id)) ?_
  refine co (Ev.pkO (.t rfl) rfl) ?_
  refine mv rfl (cons (opgT rfl rfl rfl ?_))
  refine (calln (X := CB) (fun _ => True) (fun x => eConf.val (x.c 4)) (fun x => x.R (manyL 0 0 0 0 0)) en34 (.cons (.c (v := I 0) rfl) (.cons (.c (v := I 0) rfl) (.cons (.c (v := I 0) rfl) (.cons (.c (v := I 0) rfl) (.cons (.c (v := I 0) rfl) .nil))))) (fun w I => many_ok 0 0 0 0 0 w (by omega)) (fun m2 _ => ?_))
  refine cons (callg rfl rfl en15 (.cons (.t rfl) .nil) (fun hg w I => may_to (m2.c 4) (manyL 0 0 0 0 0) w (co5 (x := m2) (l := (manyL 0 0 0 0 0)) w I) (many_names _ _ _ _ _) (many_n (by omega)) k_none) ?_)
  refine cg rfl rfl (Ev.not (.g rfl id)) ?_
  refine co (Ev.pkO (.t rfl) rfl) ?_
  refine mv rfl (cons (opgT rfl rfl rfl ?_))
  refine (calln (X := CB) (fun _ => True) (fun x => eConf.val (x.c 4)) (fun x => x.R (manyL 1 1 1 1 1)) en34 (.cons (.c (v := I 1) rfl) (.cons (.c (v := I 1) rfl) (.cons (.c (v := I 1) rfl) (.cons (.c (v := I 1) rfl) (.cons (.c (v := I 1) rfl) .nil))))) (fun w I => many_ok 1 1 1 1 1 w (by omega)) (fun m3 _ => ?_))
  refine cons (callg rfl rfl en15 (.cons (.t rfl) .nil) (fun hg w I => may_to (m3.c 4) (manyL 1 1 1 1 1) w (co5 (x := m3) (l := (manyL 1 1 1 1 1)) w I) (many_names _ _ _ _ _) (many_n (by omega)) k_ones) ?_)
  refine cg rfl rfl (Ev.not (.g rfl id)) ?_
  refine co (Ev.pkO (.t rfl) rfl) ?_
  refine mv rfl (cg rfl rfl (Ev.to (v' := eConf.val (m1.1.c 4)) (Ev.ldv ty28 (.t rfl) (Lens.id _)) (rfl)) ?_)
  refine cons (callg rfl rfl en3 (.cons (.g rfl id) .nil) (fun hg w I => ConfChecks_walk (m1.1.c 4) m1.2 w (co5 (x := m1.1) (l := m1.2) w I) (by rw [hm1]; exact many_names _ _ _ _ _)) ?_)
  refine cg rfl rfl (Ev.not (.g rfl id)) ?_
  refine co (Ev.pkO (.t rfl) rfl) ?_
  refine nP (condF rfl (rfl) ?_)
  refine skip (pN (seq (sg (cons (calln (X := CB × CL) (fun x => x.2 = manyL 257 1 1 1 1) (fun x => eConf.val (x.1.c 4)) (fun x => x.1.R x.2) en34 (.cons (.c (v := I 257) rfl) (.cons (.c (v := I 1) rfl) (.cons (.c (v := I 1) rfl) (.cons (.c (v := I 1) rfl) (.cons (.c (v := I 1) rfl) .nil))))) (fun w I => many_o 257 1 1 1 1 w (by omega)) (fun n1 hn1 => ?_))))))
  refine cons (callv en35 (.cons (.t rfl) (.cons (.c (v := I 4) rfl) (.cons (.c (v := I 256) rfl) .nil))) (fun w I => one_ok (n1.1.c 4) n1.2 4 256 w (co5 (x := n1.1) (l := n1.2) w I) (by rw [hn1]; exact many_names _ _ _ _ _) (by rw [hn1]; exact many_n (by omega)) (by rw [hn1]; exact k_1)) ?_)
  refine co (Ev.not (.t rfl)) ?_
  refine mv rfl (cons (opgT rfl rfl rfl ?_))
  refine (calln (X := CB × CL) (fun x => x.2 = manyL 1 1025 1 1 1) (fun x => eConf.val (x.1.c 4)) (fun x => x.1.R x.2) en34 (.cons (.c (v := I 1) rfl) (.cons (.c (v := I 1025) rfl) (.cons (.c (v := I 1) rfl) (.cons (.c (v := I 1) rfl) (.cons (.c (v := I 1) rfl) .nil))))) (fun w I => many_o 1 1025 1 1 1 w (by omega)) (fun n2 hn2 => ?_))
  refine cons (callg rfl rfl en35 (.cons (.t rfl) (.cons (.c (v := I 4) rfl) (.cons (.c (v := I 1025) rfl) .nil))) (fun hg w I => one_ok (n2.1.c 4) n2.2 4 1025 w (co5 (x := n2.1) (l := n2.2) w I) (by rw [hn2]; exact many_names _ _ _ _ _) (by rw [hn2]; exact many_n (by omega)) (by rw [hn2]; exact k_2)) ?_)
  refine cg rfl rfl (Ev.not (.g rfl id)) ?_
  refine co (Ev.pkO (.t rfl) rfl) ?_
  refine mv rfl (cons (opgT rfl rfl rfl ?_))
  refine (calln (X := CB × CL) (fun x => x.2 = manyL 1 1 257 1 1) (fun x => eConf.val (x.1.c 4)) (fun x => x.1.R x.2) en34 (.cons (.c (v := I 1) rfl) (.cons (.c (v := I 1) rfl) (.cons (.c (v := I 257) rfl) (.cons (.c (v := I 1) rfl) (.cons (.c (v := I 1) rfl) .nil))))) (fun w I => many_o 1 1 257 1 1 w (by omega)) (fun n3 hn3 => ?_))
  refine cons (callg rfl rfl en35 (.cons (.t rfl) (.cons (.c (v := I 4) rfl) (.cons (.c (v := I 258) rfl) .nil))) (fun hg w I => one_ok (n3.1.c 4) n3.2 4 258 w (co5 (x := n3.1) (l := n3.2) w I) (by rw [hn3]; exact many_names _ _ _ _ _) (by rw [hn3]; exact many_n (by omega)) (by rw [hn3]; exact k_3)) ?_)
  refine cg rfl rfl (Ev.not (.g rfl id)) ?_
  refine co (Ev.pkO (.t rfl) rfl) ?_
  refine mv rfl (cons (opgT rfl rfl rfl ?_))
  refine (calln (X := CB × CL) (fun x => x.2 = manyL 1 1 1 65 1) (fun x => eConf.val (x.1.c 4)) (fun x => x.1.R x.2) en34 (.cons (.c (v := I 1) rfl) (.cons (.c (v := I 1) rfl) (.cons (.c (v := I 1) rfl) (.cons (.c (v := I 65) rfl) (.cons (.c (v := I 1) rfl) .nil))))) (fun w I => many_o 1 1 1 65 1 w (by omega)) (fun n4 hn4 => ?_))
  refine cons (callg rfl rfl en35 (.cons (.t rfl) (.cons (.c (v := I 4) rfl) (.cons (.c (v := I 67) rfl) .nil))) (fun hg w I => one_ok (n4.1.c 4) n4.2 4 67 w (co5 (x := n4.1) (l := n4.2) w I) (by rw [hn4]; exact many_names _ _ _ _ _) (by rw [hn4]; exact many_n (by omega)) (by rw [hn4]; exact k_4)) ?_)
  refine cg rfl rfl (Ev.not (.g rfl id)) ?_
  refine co (Ev.pkO (.t rfl) rfl) ?_
  refine mv rfl (cons (opgT rfl rfl rfl ?_))
  refine (calln (X := CB × CL) (fun x => x.2 = manyL 1 1 1 1 17) (fun x => eConf.val (x.1.c 4)) (fun x => x.1.R x.2) en34 (.cons (.c (v := I 1) rfl) (.cons (.c (v := I 1) rfl) (.cons (.c (v := I 1) rfl) (.cons (.c (v := I 1) rfl) (.cons (.c (v := I 17) rfl) .nil))))) (fun w I => many_o 1 1 1 1 17 w (by omega)) (fun n5 hn5 => ?_))
  refine cons (callg rfl rfl en35 (.cons (.t rfl) (.cons (.c (v := I 4) rfl) (.cons (.c (v := I 20) rfl) .nil))) (fun hg w I => one_ok (n5.1.c 4) n5.2 4 20 w (co5 (x := n5.1) (l := n5.2) w I) (by rw [hn5]; exact many_names _ _ _ _ _) (by rw [hn5]; exact many_n (by omega)) (by rw [hn5]; exact k_5)) ?_)
  refine cg rfl rfl (Ev.not (.g rfl id)) ?_
  refine co (Ev.pkO (.t rfl) rfl) ?_
  refine mv rfl (cons (opgT rfl rfl rfl ?_))
  refine (calln (X := CB × CL) (fun x => x.2 = manyL 1 1 1 1 40) (fun x => eConf.val (x.1.c 4)) (fun x => x.1.R x.2) en34 (.cons (.c (v := I 1) rfl) (.cons (.c (v := I 1) rfl) (.cons (.c (v := I 1) rfl) (.cons (.c (v := I 1) rfl) (.cons (.c (v := I 40) rfl) .nil))))) (fun w I => many_o 1 1 1 1 40 w (by omega)) (fun n6 hn6 => ?_))
  refine cons (callg rfl rfl en35 (.cons (.t rfl) (.cons (.c (v := I 4) rfl) (.cons (.c (v := I 20) rfl) .nil))) (fun hg w I => one_ok (n6.1.c 4) n6.2 4 20 w (co5 (x := n6.1) (l := n6.2) w I) (by rw [hn6]; exact many_names _ _ _ _ _) (by rw [hn6]; exact many_n (by omega)) (by rw [hn6]; exact k_6)) ?_)
  refine cg rfl rfl (Ev.not (.g rfl id)) ?_
  refine co (Ev.pkO (.t rfl) rfl) ?_
  refine nP (condF rfl (rfl) ?_)
  refine skip (pN (sg (cons (calln (X := CB × CL) (fun x => x.2 = manyL 257 1 257 1 1) (fun x => eConf.val (x.1.c 4)) (fun x => x.1.R x.2) en34 (.cons (.c (v := I 257) rfl) (.cons (.c (v := I 1) rfl) (.cons (.c (v := I 257) rfl) (.cons (.c (v := I 1) rfl) (.cons (.c (v := I 1) rfl) .nil))))) (fun w I => many_o 257 1 257 1 1 w (by omega)) (fun n7 hn7 => ?_)))))
  refine cons (alloc z28 (fun b3 => ?_))
  refine cons (stv ty28 (Lens.id _) (.t rfl) (.t rfl) ?_)
  refine nP (sg (co (fA 5 (.t rfl)) ?_))
  refine cons (stv ty3 SConf.l_default (.t rfl) (.c (v := I 3) rfl) ?_)
  refine nP (sg (co (Ev.to (v' := eConf.val (n7.1.c 3)) (Ev.ldv ty28 (.t rfl) (Lens.id _)) (rfl)) ?_))
  refine cons (callo (xs := ([⟨4, 256⟩, ⟨4, 514⟩, ⟨2, 517⟩] : List SFault)) en12 (.cons (.t rfl) .nil) (fun w I => check_to (n7.1.c 3) n7.2 _ w (co5 (x := n7.1) (l := n7.2) w I) (by rw [hn7]; exact many_names _ _ _ _ _) (by rw [hn7]; exact many_n (by omega)) (by rw [hn7]; exact k_7)) (fun f1 => ?_))
  refine asn rfl (nP (seq (sg (mv rfl (co (Ev.len Tryz.underlying31 (.t rfl) zf) ?_)))))
  refine co (Ev.to (v' := .bool false) (Ev.neq_i (.t rfl) (.c (v := I 3) rfl)) (congrArg Value.bool (by decide +kernel))) ?_
  refine mv rfl (cg rfl rfl (Ev.move (.t rfl)) ?_)
  refine cg rfl rfl (Ev.indexAddr Tryz.underlying31 ty37 (.g rfl id) (.c (v := I 0) rfl) zf (fun _ => by decide)) ?_
  refine cg rfl rfl (Ev.loadS0 (i := 0) ty37 (.g rfl id) zf (fun _ => by decide)) ?_
  refine cg rfl rfl (Ev.buildS (fs := _) (places := [(0, 1), (1, 1)]) z37 rfl Tryz.underlying37 zk (.cons (.c (v := I 4) rfl) (.cons (.c (v := I 256) rfl) .nil)) (Fills.cons SFault.l_code rfl (Fills.cons SFault.l_at_ rfl Fills.nil))) ?_
  refine cg rfl rfl (Ev.to (v' := .bool false) (Ev.neqS rfl eqok37 rfl zk (.g rfl id) (.g rfl id)) (congrArg Value.bool (by decide +kernel))) ?_
  refine co (Ev.pkO (.t rfl) rfl) ?_
  refine mv rfl (cg rfl rfl (Ev.move (.t rfl)) ?_)
  refine cg rfl rfl (Ev.indexAddr Tryz.underlying31 ty37 (.g rfl id) (.c (v := I 1) rfl) zf (fun _ => by decide)) ?_
  refine cg rfl rfl (Ev.loadS0 (i := 1) ty37 (.g rfl id) zf (fun _ => by decide)) ?_
  refine cg rfl rfl (Ev.buildS (fs := _) (places := [(0, 1), (1, 1)]) z37 rfl Tryz.underlying37 zk (.cons (.c (v := I 4) rfl) (.cons (.c (v := I 514) rfl) .nil)) (Fills.cons SFault.l_code rfl (Fills.cons SFault.l_at_ rfl Fills.nil))) ?_
  refine cg rfl rfl (Ev.to (v' := .bool false) (Ev.neqS rfl eqok37 rfl zk (.g rfl id) (.g rfl id)) (congrArg Value.bool (by decide +kernel))) ?_
  refine co (Ev.pkO (.t rfl) rfl) ?_
  refine mv rfl (cg rfl rfl (Ev.move (.t rfl)) ?_)
  refine cg rfl rfl (Ev.indexAddr Tryz.underlying31 ty37 (.g rfl id) (.c (v := I 2) rfl) zf (fun _ => by decide)) ?_
  refine cg rfl rfl (Ev.loadS0 (i := 2) ty37 (.g rfl id) zf (fun _ => by decide)) ?_
  refine cg rfl rfl (Ev.buildS (fs := _) (places := [(0, 1), (1, 1)]) z37 rfl Tryz.underlying37 zk (.cons (.c (v := I 2) rfl) (.cons (.c (v := I 517) rfl) .nil)) (Fills.cons SFault.l_code rfl (Fills.cons SFault.l_at_ rfl Fills.nil))) ?_
  refine cg rfl rfl (Ev.to (v' := .bool false) (Ev.neqS rfl eqok37 rfl zk (.g rfl id) (.g rfl id)) (congrArg Value.bool (by decide +kernel))) ?_
  refine co (Ev.pkO (.t rfl) rfl) ?_
  refine nP (condF rfl (rfl) ?_)
  refine skip (pN (seq (seq (arr (L' := [Var b2 eConf (m1.1.c 4) 28, OwnS m1.1.o1.v iE m1.2.ps 3, OwnS m1.1.o2.v eRoute m1.2.rs 52, OwnS m1.1.o3.v eRule m1.2.us 76, OwnS m1.1.o4.v eMeterConf m1.2.ms 57, OwnS m1.1.o5.v eMirrorConf m1.2.xs 59, Var b1 eConf (s1.c 1) 28, OwnS s1.o1.v iE smallL.ps 3, OwnS s1.o2.v eRoute smallL.rs 52, OwnS s1.o3.v eRule smallL.us 76, OwnS s1.o4.v eMeterConf smallL.ms 57, OwnS s1.o5.v eMirrorConf smallL.xs 59]) (by repeat first | exact SubP.nil | refine SubP.cons zr ?_) ?_))))
  refine region (cons (buildSlice (E := iE) Tryz.underlying22 ty3 z3 (.cons (.c (v := I (-2)) rfl) (.cons (.c (v := I 0) rfl) (.cons (.c (v := I 1) rfl) (.cons (.c (v := I 3) rfl) (.cons (.c (v := I 6) rfl) (.cons (.c (v := I 1023) rfl) (.cons (.c (v := I 2048) rfl) .nil))))))) rfl rfl (fun v4 => ?_)))
  refine co (Ev.len Tryz.underlying22 (.t rfl) zf) ?_
  refine co (Ev.move (.c (v := I 0) rfl)) ?_
  refine nP (block (lp (X := Int) (fun x : Int => (0 ≤ x ∧ x ≤ 7)) (fun x : Int => [(1, true, .pointer (some ⟨b1, 0, none⟩)), (2, true, .pointer (some ⟨b2, 0, none⟩)), (107, true, v4.v), (108, true, I 7), (109, true, I x)]) (fun x : Int => [OwnS v4.v iE roomsK 3, Var b2 eConf (m1.1.c 4) 28, OwnS m1.1.o1.v iE m1.2.ps 3, OwnS m1.1.o2.v eRoute m1.2.rs 52, OwnS m1.1.o3.v eRule m1.2.us 76, OwnS m1.1.o4.v eMeterConf m1.2.ms 57, OwnS m1.1.o5.v eMirrorConf m1.2.xs 59, Var b1 eConf (s1.c 1) 28, OwnS s1.o1.v iE smallL.ps 3, OwnS s1.o2.v eRoute smallL.rs 52, OwnS s1.o3.v eRule smallL.us 76, OwnS s1.o4.v eMeterConf smallL.ms 57, OwnS s1.o5.v eMirrorConf smallL.xs 59]) (fun x : Int => (7 - x).toNat) (0) ?_ (fun x hx => ?_)))
  · omega
  obtain ⟨k, rfl⟩ : ∃ y, y = x := ⟨x, rfl⟩
  have hk : 0 ≤ k ∧ k ≤ 7 := hx
  clear hx
  have hrl : roomsK.length = 7 := rfl
  refine sg (co (Ev.lss_i (.t rfl) (.t rfl)) ?_)
  refine nP (seq ?_)
  first | refine condD rfl (fun h3 => ?_) (fun h3 => ?_) | refine cond rfl (fun h3 => ?_) (fun h3 => ?_)
  · try simp only [nb] at h3
    refine skip (pN (seq (block (sg (co (Ev.indexAddr Tryz.underlying22 ty3 (.t rfl) (.t rfl) zf (fun _ => zo)) ?_)))))
    refine co (Ev.loadS0 ty3 (.t rfl) zf (fun _ => zo)) ?_
    refine asn rfl (nP (sg (cons (calln (X := CB) (fun _ => True) (fun x => eConf.val (x.c 4)) (fun x => x.R (manyL 1 0 0 0 1)) en34 (.cons (.c (v := I 1) rfl) (.cons (.c (v := I 0) rfl) (.cons (.c (v := I 0) rfl) (.cons (.c (v := I 0) rfl) (.cons (.c (v := I 1) rfl) .nil))))) (fun w I => many_ok 1 0 0 0 1 w (by omega)) (fun n8 _ => ?_)))))
    refine cons (alloc z28 (fun b5 => ?_))
    refine cons (stv ty28 (Lens.id _) (.t rfl) (.t rfl) ?_)
    refine nP (sg (co (fA 4 (.t rfl)) ?_))
    refine co (Ev.to (v' := n8.o5.v) (Ev.ldv ty26 (.t rfl) SConf.l_mirrors) (rfl)) ?_
    refine mv rfl (co (Ev.indexAddr Tryz.underlying26 ty59 (.t rfl) (.c (v := I 0) rfl) zf (fun _ => by decide)) ?_)
    refine co (Ev.fieldAddrS (o := 2) (i := 0) (.t rfl) zf (fun _ => by decide) zk) ?_
    refine cons (storeS (i := 0) ty3 SMirrorConf.l_room rfl (.t rfl) (.t rfl) zu (by decide) ?_)
    refine nP (sg (co (Ev.to (v' := eConf.val (n8.c 4)) (Ev.ldv ty28 (.t rfl) (Lens.id _)) (rfl)) ?_))
    refine cons (callv en35 (.cons (.t rfl) (.cons (.c (v := I 2) rfl) (.cons (.c (v := I 1) rfl) .nil))) (fun w I => one_ok (n8.c 4) (roomL (roomsK.getD k.toNat iE.zero)) 2 1 w (co5 (x := n8) (l := (roomL (roomsK.getD k.toNat iE.zero))) w I) (room_names _) (room_n _) (k_room k.toNat (by omega))) ?_)
    refine co (Ev.not (.t rfl)) ?_
    refine nP (condF rfl (rfl) ?_)
    refine skip (bN (pN (region (co (Ev.add_i (.t rfl) (.c (v := I 1) rfl) (fun _ => zo)) ?_))))
    refine mv rfl (nP (nxP (X := Int) (k + 1) ?_ ?_))
    · try dsimp only
      omega
    · try dsimp only
      omega
  · try simp only [nb] at h3
    refine exit (pX (pX (bX (pN (sg (cons (calln (X := CB) (fun _ => True) (fun x => eConf.val (x.c 4)) (fun x => x.R (manyL 3 0 0 0 0)) en34 (.cons (.c (v := I 3) rfl) (.cons (.c (v := I 0) rfl) (.cons (.c (v := I 0) rfl) (.cons (.c (v := I 0) rfl) (.cons (.c (v := I 0) rfl) .nil))))) (fun w I => many_ok 3 0 0 0 0 w (by omega)) (fun n9 _ => ?_))))))))
    refine cons (alloc z28 (fun b6 => ?_))
    refine cons (stv ty28 (Lens.id _) (.t rfl) (.t rfl) ?_)
    refine nP (sg (co (fA 0 (.t rfl)) ?_))
    refine co (Ev.to (v' := n9.o1.v) (Ev.ldv ty22 (.t rfl) SConf.l_ports) (rfl)) ?_
    refine co (Ev.indexAddr Tryz.underlying22 ty3 (.t rfl) (.c (v := I 1) rfl) zf (fun _ => by decide)) ?_
    refine cons (storeS0 (i := 1) ty3 (.t rfl) (.c (v := I 0) rfl) zu (by decide) ?_)
    refine nP (sg (cons (calln (X := CB) (fun _ => True) (fun x => eConf.val (x.c 4)) (fun x => x.R (manyL 1 1 0 0 0)) en34 (.cons (.c (v := I 1) rfl) (.cons (.c (v := I 1) rfl) (.cons (.c (v := I 0) rfl) (.cons (.c (v := I 0) rfl) (.cons (.c (v := I 0) rfl) .nil))))) (fun w I => many_ok 1 1 0 0 0 w (by omega)) (fun n10 _ => ?_))))
    refine cons (alloc z28 (fun b7 => ?_))
    refine cons (stv ty28 (Lens.id _) (.t rfl) (.t rfl) ?_)
    refine nP (sg (co (fA 1 (.t rfl)) ?_))
    refine co (Ev.to (v' := n10.o2.v) (Ev.ldv ty23 (.t rfl) SConf.l_routes) (rfl)) ?_
    refine co (Ev.buildS (fs := _) (places := [(0, 17), (17, 1)]) z50 rfl Tryz.underlying50 zk (.cons (.c (v := I 99) rfl) .nil) (Fills.cons SPrefix.l_bits rfl Fills.nil)) ?_
    refine co (Ev.buildS (fs := _) (places := [(0, 18), (18, 1)]) z52 rfl Tryz.underlying52 zk (.cons (.t rfl) (.cons (.c (v := I 9) rfl) .nil)) (Fills.cons SRoute.l_to_ rfl (Fills.cons SRoute.l_out rfl Fills.nil))) ?_
    refine co (Ev.indexAddr Tryz.underlying23 ty52 (.t rfl) (.c (v := I 0) rfl) zf (fun _ => by decide)) ?_
    refine cons (storeS0 (i := 0) ty52 (.t rfl) (.t rfl) zu (by decide) ?_)
    refine nP (seq (sg (co (Ev.to (v' := eConf.val (n9.c 4)) (Ev.ldv ty28 (.t rfl) (Lens.id _)) (rfl)) ?_)))
    refine cons (callv en35 (.cons (.t rfl) (.cons (.c (v := I 2) rfl) (.cons (.c (v := I 1) rfl) .nil))) (fun w I => one_ok (n9.c 4) twiceL 2 1 w (co5 (x := n9) (l := twiceL) w I) (names_of (by decide +kernel)) (by decide +kernel) k_twice) ?_)
    refine co (Ev.not (.t rfl)) ?_
    refine mv rfl (cg rfl rfl (Ev.to (v' := eConf.val (n10.c 4)) (Ev.ldv ty28 (.t rfl) (Lens.id _)) (rfl)) ?_)
    refine cons (callg rfl rfl en35 (.cons (.g rfl id) (.cons (.c (v := I 151) rfl) (.cons (.c (v := I 1) rfl) .nil))) (fun hg w I => one_ok (n10.c 4) badL 151 1 w (co5 (x := n10) (l := badL) w I) (names_of (by decide +kernel)) (by decide +kernel) k_bad) ?_)
    refine cg rfl rfl (Ev.not (.g rfl id)) ?_
    refine co (Ev.pkO (.t rfl) rfl) ?_
    refine nP (condF rfl (rfl) ?_)
    refine skip (pN (sg (cons (calln (X := CB) (fun _ => True) (fun x => eConf.val (x.c 1)) (fun x => x.R smallL) en33 .nil (fun w I => small_ok w) (fun s2 _ => ?_)))))
    refine cons (alloc z28 (fun b8 => ?_))
    refine cons (stv ty28 (Lens.id _) (.t rfl) (.t rfl) ?_)
    refine nP (sg (cons (buildSlice (E := iE) Tryz.underlying22 ty3 z3 (.cons (.c (v := I 2) rfl) (.cons (.c (v := I 1) rfl) .nil)) rfl rfl (fun v9 => ?_))))
    refine co (fA 0 (.t rfl)) ?_
    refine cons (stv ty22 SConf.l_ports (.t rfl) (.t rfl) ?_)
    refine nP (seq (sg (co (Ev.to (v' := eConf.val ((⟨v9, s2.o2, s2.o3, s2.o4, s2.o5⟩ : CB).c 1)) (Ev.ldv ty28 (.t rfl) (Lens.id _)) (rfl)) ?_)))
    refine cons (callv en35 (.cons (.t rfl) (.cons (.c (v := I 2) rfl) (.cons (.c (v := I 1) rfl) .nil))) (fun w I => one_ok ((⟨v9, s2.o2, s2.o3, s2.o4, s2.o5⟩ : CB).c 1) sm1 2 1 w (co5 (x := (⟨v9, s2.o2, s2.o3, s2.o4, s2.o5⟩ : CB)) (l := sm1) w I) (names_of (by decide +kernel)) (by decide +kernel) k_sm1) ?_)
    refine co (Ev.not (.t rfl)) ?_
    refine nP (condF rfl (rfl) ?_)
    refine skip (pN (sg (cons (calln (X := CB) (fun _ => True) (fun x => eConf.val (x.c 1)) (fun x => x.R smallL) en33 .nil (fun w I => small_ok w) (fun s3 _ => ?_)))))
    refine cons (stv ty28 (Lens.id _) (.t rfl) (.t rfl) ?_)
    refine nP (sg (co (fA 1 (.t rfl)) ?_))
    refine co (Ev.to (v' := s3.o2.v) (Ev.ldv ty23 (.t rfl) SConf.l_routes) (rfl)) ?_
    refine co (Ev.indexAddr Tryz.underlying23 ty52 (.t rfl) (.c (v := I 0) rfl) zf (fun _ => by decide)) ?_
    refine co (Ev.fieldAddrS (o := 18) (i := 0) (.t rfl) zf (fun _ => by decide) zk) ?_
    refine cons (storeS (i := 0) ty3 SRoute.l_out rfl (.t rfl) (.c (v := I 3) rfl) zu (by decide) ?_)
    refine nP (sg (co (fA 3 (.t rfl)) ?_))
    refine co (Ev.to (v' := s3.o4.v) (Ev.ldv ty25 (.t rfl) SConf.l_meters) (rfl)) ?_
    refine co (Ev.indexAddr Tryz.underlying25 ty57 (.t rfl) (.c (v := I 0) rfl) zf (fun _ => by decide)) ?_
    refine co (Ev.fieldAddrS (o := 0) (i := 0) (.t rfl) zf (fun _ => by decide) zk) ?_
    refine cons (storeS (i := 0) ty9 SMeterConf.l_name rfl (.t rfl) (.c (v := (Go.Value.string (ByteArray.mk #[77]))) rfl) zu (by decide) ?_)
    refine nP (sg (co (Ev.to (v' := eConf.val (s3.c 1)) (Ev.ldv ty28 (.t rfl) (Lens.id _)) (rfl)) ?_))
    refine cons (callo (xs := ([⟨5, 2⟩, ⟨210, 3⟩, ⟨201, 5⟩] : List SFault)) en12 (.cons (.t rfl) .nil) (fun w I => check_to (s3.c 1) sm2 _ w (co5 (x := s3) (l := sm2) w I) (names_of (by decide +kernel)) (by decide +kernel) k_sm2) (fun f2 => ?_))
    refine asn rfl (nP (seq (sg (mv rfl (co (Ev.len Tryz.underlying31 (.t rfl) zf) ?_)))))
    refine co (Ev.to (v' := .bool false) (Ev.neq_i (.t rfl) (.c (v := I 3) rfl)) (congrArg Value.bool (by decide +kernel))) ?_
    refine mv rfl (cg rfl rfl (Ev.move (.t rfl)) ?_)
    refine cg rfl rfl (Ev.indexAddr Tryz.underlying31 ty37 (.g rfl id) (.c (v := I 0) rfl) zf (fun _ => by decide)) ?_
    refine cg rfl rfl (Ev.loadS0 (i := 0) ty37 (.g rfl id) zf (fun _ => by decide)) ?_
    refine cg rfl rfl (Ev.buildS (fs := _) (places := [(0, 1), (1, 1)]) z37 rfl Tryz.underlying37 zk (.cons (.c (v := I 5) rfl) (.cons (.c (v := I 2) rfl) .nil)) (Fills.cons SFault.l_code rfl (Fills.cons SFault.l_at_ rfl Fills.nil))) ?_
    refine cg rfl rfl (Ev.to (v' := .bool false) (Ev.neqS rfl eqok37 rfl zk (.g rfl id) (.g rfl id)) (congrArg Value.bool (by decide +kernel))) ?_
    refine co (Ev.pkO (.t rfl) rfl) ?_
    refine mv rfl (cg rfl rfl (Ev.move (.t rfl)) ?_)
    refine cg rfl rfl (Ev.indexAddr Tryz.underlying31 ty37 (.g rfl id) (.c (v := I 1) rfl) zf (fun _ => by decide)) ?_
    refine cg rfl rfl (Ev.loadS0 (i := 1) ty37 (.g rfl id) zf (fun _ => by decide)) ?_
    refine cg rfl rfl (Ev.buildS (fs := _) (places := [(0, 1), (1, 1)]) z37 rfl Tryz.underlying37 zk (.cons (.c (v := I 210) rfl) (.cons (.c (v := I 3) rfl) .nil)) (Fills.cons SFault.l_code rfl (Fills.cons SFault.l_at_ rfl Fills.nil))) ?_
    refine cg rfl rfl (Ev.to (v' := .bool false) (Ev.neqS rfl eqok37 rfl zk (.g rfl id) (.g rfl id)) (congrArg Value.bool (by decide +kernel))) ?_
    refine co (Ev.pkO (.t rfl) rfl) ?_
    refine mv rfl (cg rfl rfl (Ev.move (.t rfl)) ?_)
    refine cg rfl rfl (Ev.indexAddr Tryz.underlying31 ty37 (.g rfl id) (.c (v := I 2) rfl) zf (fun _ => by decide)) ?_
    refine cg rfl rfl (Ev.loadS0 (i := 2) ty37 (.g rfl id) zf (fun _ => by decide)) ?_
    refine cg rfl rfl (Ev.buildS (fs := _) (places := [(0, 1), (1, 1)]) z37 rfl Tryz.underlying37 zk (.cons (.c (v := I 201) rfl) (.cons (.c (v := I 5) rfl) .nil)) (Fills.cons SFault.l_code rfl (Fills.cons SFault.l_at_ rfl Fills.nil))) ?_
    refine cg rfl rfl (Ev.to (v' := .bool false) (Ev.neqS rfl eqok37 rfl zk (.g rfl id) (.g rfl id)) (congrArg Value.bool (by decide +kernel))) ?_
    refine co (Ev.pkO (.t rfl) rfl) ?_
    refine nP (condF rfl (rfl) ?_)
    refine skip (pN (sg (cons (calln (X := CB) (fun _ => True) (fun x => eConf.val (x.c 1)) (fun x => x.R smallL) en33 .nil (fun w I => small_ok w) (fun s4 _ => ?_)))))
    refine cons (stv ty28 (Lens.id _) (.t rfl) (.t rfl) ?_)
    refine nP (cut (X := Unit) (fun _ : Unit => True) (fun _ : Unit => [(1, true, .pointer (some ⟨b1, 0, none⟩)), (2, true, .pointer (some ⟨b2, 0, none⟩)), (10, true, .pointer (some ⟨b8, 0, none⟩))]) (fun _ : Unit => [Var b8 eConf (s4.c 1) 28, OwnS s4.o1.v iE sm3.ps 3, OwnS s4.o2.v eRoute sm3.rs 52, OwnS s4.o3.v eRule sm3.us 76, OwnS s4.o4.v eMeterConf sm3.ms 57, OwnS s4.o5.v eMirrorConf sm3.xs 59, Var b2 eConf (m1.1.c 4) 28, OwnS m1.1.o1.v iE m1.2.ps 3, OwnS m1.1.o2.v eRoute m1.2.rs 52, OwnS m1.1.o3.v eRule m1.2.us 76, OwnS m1.1.o4.v eMeterConf m1.2.ms 57, OwnS m1.1.o5.v eMirrorConf m1.2.xs 59, Var b1 eConf (s1.c 1) 28, OwnS s1.o1.v iE smallL.ps 3, OwnS s1.o2.v eRoute smallL.rs 52, OwnS s1.o3.v eRule smallL.us 76, OwnS s1.o4.v eMeterConf smallL.ms 57, OwnS s1.o5.v eMirrorConf smallL.xs 59]) ?_ (fun x hx => ?_))
    · refine draw [Var b8 eConf (s4.c 1) 28] zk ?_
      refine tk 0 rfl (fA 3 (.t rfl)) ?_
      refine tk 1 rfl (Ev.to (v' := s4.o4.v) (Ev.ldv ty25 (.t rfl) SConf.l_meters) (rfl)) ?_
      refine tk 2 rfl (fA 3 (.t rfl)) ?_
      refine tk 3 rfl (Ev.to (v' := s4.o4.v) (Ev.ldv ty25 (.t rfl) SConf.l_meters) (rfl)) ?_
      refine tk 4 rfl (fA 3 (.t rfl)) ?_
      refine tk 5 rfl (Ev.to (v' := s4.o4.v) (Ev.ldv ty25 (.t rfl) SConf.l_meters) (rfl)) ?_
      refine tk 8 rfl (fA 3 (.t rfl)) ?_
      refine tk 9 rfl (Ev.to (v' := s4.o4.v) (Ev.ldv ty25 (.t rfl) SConf.l_meters) (rfl)) ?_
      refine all [6, 10] zk (by decide) (.cons rfl ?_ (.cons rfl ?_ .nil))
      · refine (opv (Ev.indexAddr Tryz.underlying25 ty57 (.t rfl) (.c (v := I 1) rfl) zf (fun _ => by decide)) ?_)
        refine hdn (all [7, 10] zk (by decide) (.cons rfl ?_ (.cons rfl ?_ .nil)))
        · refine (opv (Ev.loadS0 (i := 1) ty57 (.t rfl) zf (fun _ => by decide)) ?_)
          refine hdn (al1 10 rfl ((opv (Ev.indexAddr Tryz.underlying25 ty57 (.t rfl) (.c (v := I 0) rfl) zf (fun _ => by decide)) ?_)))
          refine hdn (al1 11 rfl ((opv (Ev.loadS0 (i := 0) ty57 (.t rfl) zf (fun _ => by decide)) ?_)))
          refine hdn (al1 12 rfl ((opv (Ev.indexAddr Tryz.underlying25 ty57 (.t rfl) (.c (v := I 0) rfl) zf (fun _ => by decide)) ?_)))
          refine hdn (al1 13 rfl ((storeS0 (i := 0) ty57 (.t rfl) (.t rfl) zu (by decide) ?_)))
          refine hdn (al1 14 rfl ((opv (Ev.indexAddr Tryz.underlying25 ty57 (.t rfl) (.c (v := I 1) rfl) zf (fun _ => by decide)) ?_)))
          refine hdn (al1 15 rfl ((storeS0 (i := 1) ty57 (.t rfl) (.t rfl) zu (by decide) ?_)))
          refine hdn (ovr (pN (mtP (X := Unit) () trivial)))
        · refine (opv (Ev.indexAddr Tryz.underlying25 ty57 (.t rfl) (.c (v := I 0) rfl) zf (fun _ => by decide)) ?_)
          refine hdn (all [7, 11] zk (by decide) (.cons rfl ?_ (.cons rfl ?_ .nil)))
          · refine (opv (Ev.loadS0 (i := 1) ty57 (.t rfl) zf (fun _ => by decide)) ?_)
            refine hdn (al1 11 rfl ((opv (Ev.loadS0 (i := 0) ty57 (.t rfl) zf (fun _ => by decide)) ?_)))
            refine hdn (al1 12 rfl ((opv (Ev.indexAddr Tryz.underlying25 ty57 (.t rfl) (.c (v := I 0) rfl) zf (fun _ => by decide)) ?_)))
            refine hdn (al1 13 rfl ((storeS0 (i := 0) ty57 (.t rfl) (.t rfl) zu (by decide) ?_)))
            refine hdn (al1 14 rfl ((opv (Ev.indexAddr Tryz.underlying25 ty57 (.t rfl) (.c (v := I 1) rfl) zf (fun _ => by decide)) ?_)))
            refine hdn (al1 15 rfl ((storeS0 (i := 1) ty57 (.t rfl) (.t rfl) zu (by decide) ?_)))
            refine hdn (ovr (pN (mtP (X := Unit) () trivial)))
          · refine (opv (Ev.loadS0 (i := 0) ty57 (.t rfl) zf (fun _ => by decide)) ?_)
            refine hdn (al1 7 rfl ((opv (Ev.loadS0 (i := 1) ty57 (.t rfl) zf (fun _ => by decide)) ?_)))
            refine hdn (al1 12 rfl ((opv (Ev.indexAddr Tryz.underlying25 ty57 (.t rfl) (.c (v := I 0) rfl) zf (fun _ => by decide)) ?_)))
            refine hdn (al1 13 rfl ((storeS0 (i := 0) ty57 (.t rfl) (.t rfl) zu (by decide) ?_)))
            refine hdn (al1 14 rfl ((opv (Ev.indexAddr Tryz.underlying25 ty57 (.t rfl) (.c (v := I 1) rfl) zf (fun _ => by decide)) ?_)))
            refine hdn (al1 15 rfl ((storeS0 (i := 1) ty57 (.t rfl) (.t rfl) zu (by decide) ?_)))
            refine hdn (ovr (pN (mtP (X := Unit) () trivial)))
      · refine (opv (Ev.indexAddr Tryz.underlying25 ty57 (.t rfl) (.c (v := I 0) rfl) zf (fun _ => by decide)) ?_)
        refine hdn (all [6, 11] zk (by decide) (.cons rfl ?_ (.cons rfl ?_ .nil)))
        · refine (opv (Ev.indexAddr Tryz.underlying25 ty57 (.t rfl) (.c (v := I 1) rfl) zf (fun _ => by decide)) ?_)
          refine hdn (all [7, 11] zk (by decide) (.cons rfl ?_ (.cons rfl ?_ .nil)))
          · refine (opv (Ev.loadS0 (i := 1) ty57 (.t rfl) zf (fun _ => by decide)) ?_)
            refine hdn (al1 11 rfl ((opv (Ev.loadS0 (i := 0) ty57 (.t rfl) zf (fun _ => by decide)) ?_)))
            refine hdn (al1 12 rfl ((opv (Ev.indexAddr Tryz.underlying25 ty57 (.t rfl) (.c (v := I 0) rfl) zf (fun _ => by decide)) ?_)))
            refine hdn (al1 13 rfl ((storeS0 (i := 0) ty57 (.t rfl) (.t rfl) zu (by decide) ?_)))
            refine hdn (al1 14 rfl ((opv (Ev.indexAddr Tryz.underlying25 ty57 (.t rfl) (.c (v := I 1) rfl) zf (fun _ => by decide)) ?_)))
            refine hdn (al1 15 rfl ((storeS0 (i := 1) ty57 (.t rfl) (.t rfl) zu (by decide) ?_)))
            refine hdn (ovr (pN (mtP (X := Unit) () trivial)))
          · refine (opv (Ev.loadS0 (i := 0) ty57 (.t rfl) zf (fun _ => by decide)) ?_)
            refine hdn (al1 7 rfl ((opv (Ev.loadS0 (i := 1) ty57 (.t rfl) zf (fun _ => by decide)) ?_)))
            refine hdn (al1 12 rfl ((opv (Ev.indexAddr Tryz.underlying25 ty57 (.t rfl) (.c (v := I 0) rfl) zf (fun _ => by decide)) ?_)))
            refine hdn (al1 13 rfl ((storeS0 (i := 0) ty57 (.t rfl) (.t rfl) zu (by decide) ?_)))
            refine hdn (al1 14 rfl ((opv (Ev.indexAddr Tryz.underlying25 ty57 (.t rfl) (.c (v := I 1) rfl) zf (fun _ => by decide)) ?_)))
            refine hdn (al1 15 rfl ((storeS0 (i := 1) ty57 (.t rfl) (.t rfl) zu (by decide) ?_)))
            refine hdn (ovr (pN (mtP (X := Unit) () trivial)))
        · refine (opv (Ev.loadS0 (i := 0) ty57 (.t rfl) zf (fun _ => by decide)) ?_)
          refine hdn (al1 6 rfl ((opv (Ev.indexAddr Tryz.underlying25 ty57 (.t rfl) (.c (v := I 1) rfl) zf (fun _ => by decide)) ?_)))
          refine hdn (al1 7 rfl ((opv (Ev.loadS0 (i := 1) ty57 (.t rfl) zf (fun _ => by decide)) ?_)))
          refine hdn (al1 12 rfl ((opv (Ev.indexAddr Tryz.underlying25 ty57 (.t rfl) (.c (v := I 0) rfl) zf (fun _ => by decide)) ?_)))
          refine hdn (al1 13 rfl ((storeS0 (i := 0) ty57 (.t rfl) (.t rfl) zu (by decide) ?_)))
          refine hdn (al1 14 rfl ((opv (Ev.indexAddr Tryz.underlying25 ty57 (.t rfl) (.c (v := I 1) rfl) zf (fun _ => by decide)) ?_)))
          refine hdn (al1 15 rfl ((storeS0 (i := 1) ty57 (.t rfl) (.t rfl) zu (by decide) ?_)))
          refine hdn (ovr (pN (mtP (X := Unit) () trivial)))
    refine sg (co (Ev.to (v' := eConf.val (s1.c 1)) (Ev.ldv ty28 (.t rfl) (Lens.id _)) (rfl)) ?_)
    refine co (Ev.to (v' := eConf.val (s4.c 1)) (Ev.ldv ty28 (.t rfl) (Lens.id _)) (rfl)) ?_
    refine cons (callv en21 (.cons (.t rfl) (.cons (.t rfl) .nil)) (fun w I => same_to (s1.c 1) (s4.c 1) smallL sm3 true w (co5 (x := s1) (l := smallL) w I) (co5 (x := s4) (l := sm3) w I) smallL_small ⟨by decide, by decide, by decide, by decide, by decide⟩ k_sm3) ?_)
    refine asn rfl (nP (sg (cons (calln (X := CB) (fun _ => True) (fun x => eConf.val (x.c 1)) (fun x => x.R smallL) en33 .nil (fun w I => small_ok w) (fun s5 _ => ?_)))))
    refine cons (stv ty28 (Lens.id _) (.t rfl) (.t rfl) ?_)
    refine nP (cut (X := Unit) (fun _ : Unit => True) (fun _ : Unit => [(1, true, .pointer (some ⟨b1, 0, none⟩)), (2, true, .pointer (some ⟨b2, 0, none⟩)), (10, true, .pointer (some ⟨b8, 0, none⟩)), (12, true, .bool true)]) (fun _ : Unit => [Var b8 eConf (s5.c 1) 28, OwnS s5.o1.v iE sm4.ps 3, OwnS s5.o2.v eRoute sm4.rs 52, OwnS s5.o3.v eRule sm4.us 76, OwnS s5.o4.v eMeterConf sm4.ms 57, OwnS s5.o5.v eMirrorConf sm4.xs 59, Var b2 eConf (m1.1.c 4) 28, OwnS m1.1.o1.v iE m1.2.ps 3, OwnS m1.1.o2.v eRoute m1.2.rs 52, OwnS m1.1.o3.v eRule m1.2.us 76, OwnS m1.1.o4.v eMeterConf m1.2.ms 57, OwnS m1.1.o5.v eMirrorConf m1.2.xs 59, Var b1 eConf (s1.c 1) 28, OwnS s1.o1.v iE smallL.ps 3, OwnS s1.o2.v eRoute smallL.rs 52, OwnS s1.o3.v eRule smallL.us 76, OwnS s1.o4.v eMeterConf smallL.ms 57, OwnS s1.o5.v eMirrorConf smallL.xs 59]) ?_ (fun x hx => ?_))
    · refine draw [Var b8 eConf (s5.c 1) 28] zk ?_
      refine tk 0 rfl (fA 2 (.t rfl)) ?_
      refine tk 1 rfl (Ev.to (v' := s5.o3.v) (Ev.ldv ty24 (.t rfl) SConf.l_rules) (rfl)) ?_
      refine tk 2 rfl (fA 2 (.t rfl)) ?_
      refine tk 3 rfl (Ev.to (v' := s5.o3.v) (Ev.ldv ty24 (.t rfl) SConf.l_rules) (rfl)) ?_
      refine tk 4 rfl (fA 2 (.t rfl)) ?_
      refine tk 5 rfl (Ev.to (v' := s5.o3.v) (Ev.ldv ty24 (.t rfl) SConf.l_rules) (rfl)) ?_
      refine tk 8 rfl (fA 2 (.t rfl)) ?_
      refine tk 9 rfl (Ev.to (v' := s5.o3.v) (Ev.ldv ty24 (.t rfl) SConf.l_rules) (rfl)) ?_
      refine all [6, 10] zk (by decide) (.cons rfl ?_ (.cons rfl ?_ .nil))
      · refine (opv (Ev.indexAddr Tryz.underlying24 ty76 (.t rfl) (.c (v := I 1) rfl) zf (fun _ => by decide)) ?_)
        refine hdn (all [7, 10] zk (by decide) (.cons rfl ?_ (.cons rfl ?_ .nil)))
        · refine (opv (Ev.loadS0 (i := 1) ty76 (.t rfl) zf (fun _ => by decide)) ?_)
          refine hdn (al1 10 rfl ((opv (Ev.indexAddr Tryz.underlying24 ty76 (.t rfl) (.c (v := I 0) rfl) zf (fun _ => by decide)) ?_)))
          refine hdn (al1 11 rfl ((opv (Ev.loadS0 (i := 0) ty76 (.t rfl) zf (fun _ => by decide)) ?_)))
          refine hdn (al1 12 rfl ((opv (Ev.indexAddr Tryz.underlying24 ty76 (.t rfl) (.c (v := I 0) rfl) zf (fun _ => by decide)) ?_)))
          refine hdn (al1 13 rfl ((storeS0 (i := 0) ty76 (.t rfl) (.t rfl) zu (by decide) ?_)))
          refine hdn (al1 14 rfl ((opv (Ev.indexAddr Tryz.underlying24 ty76 (.t rfl) (.c (v := I 1) rfl) zf (fun _ => by decide)) ?_)))
          refine hdn (al1 15 rfl ((storeS0 (i := 1) ty76 (.t rfl) (.t rfl) zu (by decide) ?_)))
          refine hdn (ovr (pN (mtP (X := Unit) () trivial)))
        · refine (opv (Ev.indexAddr Tryz.underlying24 ty76 (.t rfl) (.c (v := I 0) rfl) zf (fun _ => by decide)) ?_)
          refine hdn (all [7, 11] zk (by decide) (.cons rfl ?_ (.cons rfl ?_ .nil)))
          · refine (opv (Ev.loadS0 (i := 1) ty76 (.t rfl) zf (fun _ => by decide)) ?_)
            refine hdn (al1 11 rfl ((opv (Ev.loadS0 (i := 0) ty76 (.t rfl) zf (fun _ => by decide)) ?_)))
            refine hdn (al1 12 rfl ((opv (Ev.indexAddr Tryz.underlying24 ty76 (.t rfl) (.c (v := I 0) rfl) zf (fun _ => by decide)) ?_)))
            refine hdn (al1 13 rfl ((storeS0 (i := 0) ty76 (.t rfl) (.t rfl) zu (by decide) ?_)))
            refine hdn (al1 14 rfl ((opv (Ev.indexAddr Tryz.underlying24 ty76 (.t rfl) (.c (v := I 1) rfl) zf (fun _ => by decide)) ?_)))
            refine hdn (al1 15 rfl ((storeS0 (i := 1) ty76 (.t rfl) (.t rfl) zu (by decide) ?_)))
            refine hdn (ovr (pN (mtP (X := Unit) () trivial)))
          · refine (opv (Ev.loadS0 (i := 0) ty76 (.t rfl) zf (fun _ => by decide)) ?_)
            refine hdn (al1 7 rfl ((opv (Ev.loadS0 (i := 1) ty76 (.t rfl) zf (fun _ => by decide)) ?_)))
            refine hdn (al1 12 rfl ((opv (Ev.indexAddr Tryz.underlying24 ty76 (.t rfl) (.c (v := I 0) rfl) zf (fun _ => by decide)) ?_)))
            refine hdn (al1 13 rfl ((storeS0 (i := 0) ty76 (.t rfl) (.t rfl) zu (by decide) ?_)))
            refine hdn (al1 14 rfl ((opv (Ev.indexAddr Tryz.underlying24 ty76 (.t rfl) (.c (v := I 1) rfl) zf (fun _ => by decide)) ?_)))
            refine hdn (al1 15 rfl ((storeS0 (i := 1) ty76 (.t rfl) (.t rfl) zu (by decide) ?_)))
            refine hdn (ovr (pN (mtP (X := Unit) () trivial)))
      · refine (opv (Ev.indexAddr Tryz.underlying24 ty76 (.t rfl) (.c (v := I 0) rfl) zf (fun _ => by decide)) ?_)
        refine hdn (all [6, 11] zk (by decide) (.cons rfl ?_ (.cons rfl ?_ .nil)))
        · refine (opv (Ev.indexAddr Tryz.underlying24 ty76 (.t rfl) (.c (v := I 1) rfl) zf (fun _ => by decide)) ?_)
          refine hdn (all [7, 11] zk (by decide) (.cons rfl ?_ (.cons rfl ?_ .nil)))
          · refine (opv (Ev.loadS0 (i := 1) ty76 (.t rfl) zf (fun _ => by decide)) ?_)
            refine hdn (al1 11 rfl ((opv (Ev.loadS0 (i := 0) ty76 (.t rfl) zf (fun _ => by decide)) ?_)))
            refine hdn (al1 12 rfl ((opv (Ev.indexAddr Tryz.underlying24 ty76 (.t rfl) (.c (v := I 0) rfl) zf (fun _ => by decide)) ?_)))
            refine hdn (al1 13 rfl ((storeS0 (i := 0) ty76 (.t rfl) (.t rfl) zu (by decide) ?_)))
            refine hdn (al1 14 rfl ((opv (Ev.indexAddr Tryz.underlying24 ty76 (.t rfl) (.c (v := I 1) rfl) zf (fun _ => by decide)) ?_)))
            refine hdn (al1 15 rfl ((storeS0 (i := 1) ty76 (.t rfl) (.t rfl) zu (by decide) ?_)))
            refine hdn (ovr (pN (mtP (X := Unit) () trivial)))
          · refine (opv (Ev.loadS0 (i := 0) ty76 (.t rfl) zf (fun _ => by decide)) ?_)
            refine hdn (al1 7 rfl ((opv (Ev.loadS0 (i := 1) ty76 (.t rfl) zf (fun _ => by decide)) ?_)))
            refine hdn (al1 12 rfl ((opv (Ev.indexAddr Tryz.underlying24 ty76 (.t rfl) (.c (v := I 0) rfl) zf (fun _ => by decide)) ?_)))
            refine hdn (al1 13 rfl ((storeS0 (i := 0) ty76 (.t rfl) (.t rfl) zu (by decide) ?_)))
            refine hdn (al1 14 rfl ((opv (Ev.indexAddr Tryz.underlying24 ty76 (.t rfl) (.c (v := I 1) rfl) zf (fun _ => by decide)) ?_)))
            refine hdn (al1 15 rfl ((storeS0 (i := 1) ty76 (.t rfl) (.t rfl) zu (by decide) ?_)))
            refine hdn (ovr (pN (mtP (X := Unit) () trivial)))
        · refine (opv (Ev.loadS0 (i := 0) ty76 (.t rfl) zf (fun _ => by decide)) ?_)
          refine hdn (al1 6 rfl ((opv (Ev.indexAddr Tryz.underlying24 ty76 (.t rfl) (.c (v := I 1) rfl) zf (fun _ => by decide)) ?_)))
          refine hdn (al1 7 rfl ((opv (Ev.loadS0 (i := 1) ty76 (.t rfl) zf (fun _ => by decide)) ?_)))
          refine hdn (al1 12 rfl ((opv (Ev.indexAddr Tryz.underlying24 ty76 (.t rfl) (.c (v := I 0) rfl) zf (fun _ => by decide)) ?_)))
          refine hdn (al1 13 rfl ((storeS0 (i := 0) ty76 (.t rfl) (.t rfl) zu (by decide) ?_)))
          refine hdn (al1 14 rfl ((opv (Ev.indexAddr Tryz.underlying24 ty76 (.t rfl) (.c (v := I 1) rfl) zf (fun _ => by decide)) ?_)))
          refine hdn (al1 15 rfl ((storeS0 (i := 1) ty76 (.t rfl) (.t rfl) zu (by decide) ?_)))
          refine hdn (ovr (pN (mtP (X := Unit) () trivial)))
    refine sg (co (Ev.to (v' := eConf.val (s1.c 1)) (Ev.ldv ty28 (.t rfl) (Lens.id _)) (rfl)) ?_)
    refine co (Ev.to (v' := eConf.val (s5.c 1)) (Ev.ldv ty28 (.t rfl) (Lens.id _)) (rfl)) ?_
    refine cons (callv en21 (.cons (.t rfl) (.cons (.t rfl) .nil)) (fun w I => same_to (s1.c 1) (s5.c 1) smallL sm4 false w (co5 (x := s1) (l := smallL) w I) (co5 (x := s5) (l := sm4) w I) smallL_small ⟨by decide, by decide, by decide, by decide, by decide⟩ k_sm4) ?_)
    refine asn rfl (nP (seq (arr (L' := [Var b2 eConf (m1.1.c 4) 28, OwnS m1.1.o1.v iE m1.2.ps 3, OwnS m1.1.o2.v eRoute m1.2.rs 52, OwnS m1.1.o3.v eRule m1.2.us 76, OwnS m1.1.o4.v eMeterConf m1.2.ms 57, OwnS m1.1.o5.v eMirrorConf m1.2.xs 59, Var b1 eConf (s1.c 1) 28, OwnS s1.o1.v iE smallL.ps 3, OwnS s1.o2.v eRoute smallL.rs 52, OwnS s1.o3.v eRule smallL.us 76, OwnS s1.o4.v eMeterConf smallL.ms 57, OwnS s1.o5.v eMirrorConf smallL.xs 59]) (by repeat first | exact SubP.nil | refine SubP.cons zr ?_) ?_)))
    refine region (co (Ev.to (v' := eConf.val (s1.c 1)) (Ev.ldv ty28 (.t rfl) (Lens.id _)) (rfl)) ?_)
    refine cons (calln (X := OV × OV × OV) (fun _ => True) (fun x => .tuple #[x.1.v, x.2.1.v, x.2.2.v, I 0]) (fun x => [OwnS x.1.v iE [1] 3, OwnS x.2.1.v iE [] 3, OwnS x.2.2.v iE [1] 3]) en29 (.cons (.t rfl) .nil) (fun w I => spare_w s1 w (co5 (x := s1) (l := smallL) w I)) (fun p1 _ => ?_))
    refine mv rfl (co (Ev.extract (.t rfl) rfl) (co (Ev.extract (.t rfl) rfl) (co (Ev.extract (.t rfl) rfl) (co (Ev.extract (.t rfl) rfl) (asn rfl (asn rfl (asn rfl (asn rfl (nP (sg (co (Ev.to (v' := eConf.val (s1.c 1)) (Ev.ldv ty28 (.t rfl) (Lens.id _)) (rfl)) ?_)))))))))))
    refine co (Ev.to (v' := eChange.val (cutP 3)) (Ev.buildS (fs := _) (places := [(0, 1), (1, 1), (2, 19), (21, 4), (25, 3), (28, 1), (29, 1)]) z61 rfl Tryz.underlying61 zk (.cons (.c (v := I 2) rfl) (.cons (.c (v := I 3) rfl) .nil)) (Fills.cons SChange.l_kind rfl (Fills.cons SChange.l_port rfl Fills.nil))) (rfl)) ?_
    refine cons (buildSlice (E := eChange) Tryz.underlying41 ty61 z61 (.cons (.t rfl) .nil) rfl rfl (fun v10 => ?_))
    refine cons (calln (X := CB × CL × Int) (fun _ => True) (fun x => .tuple #[eConf.val (x.1.c x.2.2), I 211]) (fun x => x.1.R x.2.1) en27 (.cons (.t rfl) (.cons (.t rfl) .nil)) (fun w I => apply_k (s1.c 1) smallL _ (cutP 3) 211 w (co5 (x := s1) (l := smallL) w I) smallL_names (by rw [smallL_n]; decide) (io w I) rfl chs_a k_a1) (fun a1 _ => ?_))
    refine mv rfl (co (Ev.extract (.t rfl) rfl) (co (Ev.extract (.t rfl) rfl) (cons (alloc z28 (fun b11 => ?_)))))
    refine cons (stv ty28 (Lens.id _) (.t rfl) (.t rfl) ?_)
    refine asn rfl (nP (sg (co (Ev.to (v' := eConf.val (s1.c 1)) (Ev.ldv ty28 (.t rfl) (Lens.id _)) (rfl)) ?_)))
    refine co (Ev.to (v' := eChange.val (cutP 2)) (Ev.buildS (fs := _) (places := [(0, 1), (1, 1), (2, 19), (21, 4), (25, 3), (28, 1), (29, 1)]) z61 rfl Tryz.underlying61 zk (.cons (.c (v := I 2) rfl) (.cons (.c (v := I 2) rfl) .nil)) (Fills.cons SChange.l_kind rfl (Fills.cons SChange.l_port rfl Fills.nil))) (rfl)) ?_
    refine cons (buildSlice (E := eChange) Tryz.underlying41 ty61 z61 (.cons (.t rfl) .nil) rfl rfl (fun v12 => ?_))
    refine cons (calln (X := CB × CL × Int) (fun _ => True) (fun x => .tuple #[eConf.val (x.1.c x.2.2), I 210]) (fun x => x.1.R x.2.1) en27 (.cons (.t rfl) (.cons (.t rfl) .nil)) (fun w I => apply_k (s1.c 1) smallL _ (cutP 2) 210 w (co5 (x := s1) (l := smallL) w I) smallL_names (by rw [smallL_n]; decide) (io w I) rfl chs_b k_a2) (fun a2 _ => ?_))
    refine mv rfl (co (Ev.extract (.t rfl) rfl) (co (Ev.extract (.t rfl) rfl) (cons (alloc z28 (fun b13 => ?_)))))
    refine cons (stv ty28 (Lens.id _) (.t rfl) (.t rfl) ?_)
    refine asn rfl (nP (sg (co (Ev.to (v' := eConf.val (s1.c 1)) (Ev.ldv ty28 (.t rfl) (Lens.id _)) (rfl)) ?_)))
    refine co (Ev.to (v' := eChange.val eChange.zero) (Ev.buildS (fs := _) (places := [(0, 1), (1, 1), (2, 19), (21, 4), (25, 3), (28, 1), (29, 1)]) z61 rfl Tryz.underlying61 zk .nil Fills.nil) (rfl)) ?_
    refine cons (buildSlice (E := eChange) Tryz.underlying41 ty61 z61 (.cons (.t rfl) .nil) rfl rfl (fun v14 => ?_))
    refine cons (calln (X := CB × CL × Int) (fun _ => True) (fun x => .tuple #[eConf.val (x.1.c x.2.2), I 211]) (fun x => x.1.R x.2.1) en27 (.cons (.t rfl) (.cons (.t rfl) .nil)) (fun w I => apply_k (s1.c 1) smallL _ (eChange.zero) 211 w (co5 (x := s1) (l := smallL) w I) smallL_names (by rw [smallL_n]; decide) (io w I) rfl chs_z k_a3) (fun a3 _ => ?_))
    refine mv rfl (co (Ev.extract (.t rfl) rfl) (co (Ev.extract (.t rfl) rfl) (cons (alloc z28 (fun b15 => ?_)))))
    refine cons (stv ty28 (Lens.id _) (.t rfl) (.t rfl) ?_)
    refine asn rfl (nP (sg (co (Ev.to (v' := eConf.val eConf.zero) (Ev.buildS (fs := _) (places := [(0, 1), (1, 1), (2, 1), (3, 1), (4, 1), (5, 1)]) z28 rfl Tryz.underlying28 zk .nil Fills.nil) (rfl)) ?_)))
    refine co (Ev.to (v' := eChange.val eChange.zero) (Ev.buildS (fs := _) (places := [(0, 1), (1, 1), (2, 19), (21, 4), (25, 3), (28, 1), (29, 1)]) z61 rfl Tryz.underlying61 zk .nil Fills.nil) (rfl)) ?_
    refine cons (buildSlice (E := eChange) Tryz.underlying41 ty61 z61 (.cons (.t rfl) .nil) rfl rfl (fun v16 => ?_))
    refine cons (calln (X := CB × CL × Int) (fun _ => True) (fun x => .tuple #[eConf.val (x.1.c x.2.2), I 210]) (fun x => x.1.R x.2.1) en27 (.cons (.t rfl) (.cons (.t rfl) .nil)) (fun w I => apply_k eConf.zero L0 _ (eChange.zero) 210 w (L0_at w) (names_of (by decide +kernel)) (by decide +kernel) (io w I) rfl chs_z k_a4) (fun a4 _ => ?_))
    refine mv rfl (co (Ev.extract (.t rfl) rfl) (co (Ev.extract (.t rfl) rfl) (cons (alloc z28 (fun b17 => ?_)))))
    refine cons (stv ty28 (Lens.id _) (.t rfl) (.t rfl) ?_)
    refine asn rfl (nP (seq (draw [OwnS p1.1.v iE [1] 3, OwnS p1.2.1.v iE [] 3, OwnS p1.2.2.v iE [1] 3, Var b2 eConf (m1.1.c 4) 28, Var b1 eConf (s1.c 1) 28] zk ?_)))
    refine tk 0 rfl (Ev.move (.t rfl)) ?_
    refine tk 1 rfl (Ev.move (.t rfl)) ?_
    refine tkg 2 rfl rfl rfl (Ev.move (.t rfl)) ?_
    refine tkg 3 rfl rfl rfl (Ev.not (.g rfl id)) ?_
    refine tk 4 rfl (Ev.to (v' := .bool true) (Ev.pkA (.t rfl) rfl) (rfl)) ?_
    refine tk 5 rfl (Ev.move (.t rfl)) ?_
    refine tkg 6 rfl rfl rfl (Ev.move (.t rfl)) ?_
    refine tkg 7 rfl rfl rfl (Ev.to (v' := .bool true) (Ev.eql_i (.g rfl id) (.c (v := I 0) rfl)) (congrArg Value.bool (by decide +kernel))) ?_
    refine tk 8 rfl (Ev.to (v' := .bool true) (Ev.pkA (.t rfl) rfl) (rfl)) ?_
    refine tk 9 rfl (Ev.move (.t rfl)) ?_
    refine tkg 10 rfl rfl rfl (Ev.move (.t rfl)) ?_
    refine al1 11 rfl ((opgT rfl rfl rfl ?_))
    refine (buildSlice (E := iE) Tryz.underlying22 ty3 z3 (.cons (.c (v := I 1) rfl) .nil) rfl rfl (fun v18 => ?_))
    refine hdn (al1 12 rfl ((callg rfl rfl en31 (.cons (.g rfl id) (.cons (.t rfl) .nil)) (fun hg w I => sameInts_ok _ _ _ _ w (by first | exact io w I | exact IsSl.keep0 (by assumption) I.keeps) (by first | exact io w I | exact IsSl.keep0 (by assumption) I.keeps)) ?_)))
    refine hdn (tk 13 rfl (Ev.to (v' := .bool true) (Ev.pkA (.t rfl) rfl) (rfl)) ?_)
    refine tk 14 rfl (Ev.move (.t rfl)) ?_
    refine tkg 15 rfl rfl rfl (Ev.move (.t rfl)) ?_
    refine tkg 16 rfl rfl rfl (Ev.len Tryz.underlying22 (.g rfl id) zf) ?_
    refine tkg 17 rfl rfl rfl (Ev.to (v' := .bool true) (Ev.eql_i (.g rfl id) (.c (v := I 0) rfl)) (congrArg Value.bool (by decide +kernel))) ?_
    refine tk 18 rfl (Ev.to (v' := .bool true) (Ev.pkA (.t rfl) rfl) (rfl)) ?_
    refine tk 19 rfl (Ev.move (.t rfl)) ?_
    refine tkg 20 rfl rfl rfl (Ev.move (.t rfl)) ?_
    refine al1 21 rfl ((opgT rfl rfl rfl ?_))
    refine (buildSlice (E := iE) Tryz.underlying22 ty3 z3 (.cons (.c (v := I 1) rfl) .nil) rfl rfl (fun v19 => ?_))
    refine hdn (al1 22 rfl ((callg rfl rfl en31 (.cons (.g rfl id) (.cons (.t rfl) .nil)) (fun hg w I => sameInts_ok _ _ _ _ w (by first | exact io w I | exact IsSl.keep0 (by assumption) I.keeps) (by first | exact io w I | exact IsSl.keep0 (by assumption) I.keeps)) ?_)))
    refine hdn (tk 23 rfl (Ev.to (v' := .bool true) (Ev.pkA (.t rfl) rfl) (rfl)) ?_)
    refine tk 24 rfl (Ev.move (.t rfl)) ?_
    refine tkg 25 rfl rfl rfl (Ev.move (.t rfl)) ?_
    refine tkg 26 rfl rfl rfl (Ev.to (v' := .bool true) (Ev.eql_i (.g rfl id) (.c (v := I 211) rfl)) (congrArg Value.bool (by decide +kernel))) ?_
    refine tk 27 rfl (Ev.to (v' := .bool true) (Ev.pkA (.t rfl) rfl) (rfl)) ?_
    refine tk 28 rfl (Ev.move (.t rfl)) ?_
    refine tkg 29 rfl rfl rfl (Ev.move (.t rfl)) ?_
    refine tkg 30 rfl rfl rfl (Ev.to (v' := .bool true) (Ev.eql_i (.g rfl id) (.c (v := I 210) rfl)) (congrArg Value.bool (by decide +kernel))) ?_
    refine tk 31 rfl (Ev.to (v' := .bool true) (Ev.pkA (.t rfl) rfl) (rfl)) ?_
    refine tk 32 rfl (Ev.move (.t rfl)) ?_
    refine tkg 33 rfl rfl rfl (Ev.move (.t rfl)) ?_
    refine tkg 34 rfl rfl rfl (Ev.to (v' := .bool true) (Ev.eql_i (.g rfl id) (.c (v := I 211) rfl)) (congrArg Value.bool (by decide +kernel))) ?_
    refine tk 35 rfl (Ev.to (v' := .bool true) (Ev.pkA (.t rfl) rfl) (rfl)) ?_
    refine tk 36 rfl (Ev.move (.t rfl)) ?_
    refine tkg 37 rfl rfl rfl (Ev.move (.t rfl)) ?_
    refine tkg 38 rfl rfl rfl (Ev.to (v' := .bool true) (Ev.eql_i (.g rfl id) (.c (v := I 210) rfl)) (congrArg Value.bool (by decide +kernel))) ?_
    refine tk 39 rfl (Ev.to (v' := .bool true) (Ev.pkA (.t rfl) rfl) (rfl)) ?_
    refine tk 40 rfl (Ev.move (.t rfl)) ?_
    refine tkg 41 rfl rfl rfl (Ev.to (v' := eConf.val (m1.1.c 4)) (Ev.ldv ty28 (.t rfl) (Lens.id _)) (rfl)) ?_
    refine al1 42 rfl ((opgT rfl rfl rfl ?_))
    refine (calln (X := CB × CL) (fun x => x.2 = manyL 3 2 1 1 1) (fun x => eConf.val (x.1.c 4)) (fun x => x.1.R x.2) en34 (.cons (.c (v := I 3) rfl) (.cons (.c (v := I 2) rfl) (.cons (.c (v := I 1) rfl) (.cons (.c (v := I 1) rfl) (.cons (.c (v := I 1) rfl) .nil))))) (fun w I => many_o 3 2 1 1 1 w (by omega)) (fun m9 hm9 => ?_))
    refine hdn (al1 43 rfl ((callg rfl rfl en6 (.cons (.g rfl id) (.cons (.t rfl) .nil)) (fun hg w I => ConfBack_walk (m1.1.c 4) (m9.1.c 4) m1.2 m9.2 w (co5 (x := m1.1) (l := m1.2) w I) (co5 (x := m9.1) (l := m9.2) w I) (by rw [hm1]; exact many_names _ _ _ _ _) (by rw [hm9]; exact many_names _ _ _ _ _) (by rw [hm1]; exact many_n (by omega)) (by rw [hm9]; exact many_n (by omega))) ?_)))
    refine hdn (tk 44 rfl (Ev.to (v' := .bool true) (Ev.pkA (.t rfl) rfl) (rfl)) ?_)
    refine tk 45 rfl (Ev.move (.t rfl)) ?_
    refine tkg 46 rfl rfl rfl (Ev.to (v' := eConf.val (s1.c 1)) (Ev.ldv ty28 (.t rfl) (Lens.id _)) (rfl)) ?_
    refine tkg 47 rfl rfl rfl (Ev.to (v' := eConf.val (m1.1.c 4)) (Ev.ldv ty28 (.t rfl) (Lens.id _)) (rfl)) ?_
    refine al1 48 rfl ((callg rfl rfl en6 (.cons (.g rfl id) (.cons (.g rfl id) .nil)) (fun hg w I => ConfBack_walk (s1.c 1) (m1.1.c 4) smallL m1.2 w (co5 (x := s1) (l := smallL) w I) (co5 (x := m1.1) (l := m1.2) w I) smallL_names (by rw [hm1]; exact many_names _ _ _ _ _) (by rw [smallL_n]; decide) (by rw [hm1]; exact many_n (by omega))) ?_))
    refine hdn (tk 49 rfl (Ev.to (v' := .bool true) (Ev.pkA (.t rfl) rfl) (rfl)) ?_)
    refine tk 50 rfl (Ev.move (.t rfl)) ?_
    refine al1 51 rfl ((callg rfl rfl en20 .nil (fun hg w I => works_ok w) ?_))
    refine hdn (tk 52 rfl (Ev.to (v' := .bool true) (Ev.pkA (.t rfl) rfl) (rfl)) ?_)
    refine tk 53 rfl (Ev.assign (.t rfl)) ?_
    refine ovr (pN (ret (done rfl (.tmp rfl .nil) (retE ?_))))
    rfl
end Go.Proofs.YtnoobdijbpmjkaaGreat
