/- rule -/
import Derived.Test.YtkmdhmfgbgngeaaR10
set_option linter.unusedVariables false
set_option linter.unusedSimpArgs false
namespace Go.Proofs.Ytkmdhmfgbgngeaa
open Go Go.Gx

theorem zb3 : (Try.prog.info? 3).map (fun i => (i.zero, i.bytes)) = some (some (iE.val iE.zero), 8) := by kernel_rfl

theorem zs3 : (iE.val iE.zero).cells.size = iE.size := by rw [Enc.cells_val, List.size_toArray, Enc.len]

theorem getD_take' {α : Type} (l : List α) (m i : Nat) (d : α) (h : i < m) : (l.take m).getD i d = l.getD i d := by simp [List.getD, List.getElem?_take, h]
/-- Is the k-th one covered by one ahead of it? -/
def deadAt (l : List SMatch) (k : Nat) : Bool := (l.take k).any fun m => coversM m (l.getD k eMatch.zero)
def deadT (l : List SMatch) (n : Nat) : List Int := ((List.range n).filter (deadAt l)).map fun k : Nat => (k : Int)
def deadB (l : List SMatch) : List Int := deadT l l.length
theorem deadT_step (l : List SMatch) (n : Nat) : deadT l (n + 1) = bif deadAt l n then deadT l n ++ [(n : Int)] else deadT l n := by
  unfold deadT
  rw [List.range_succ, List.filter_append]
  cases h : deadAt l n <;> simp [h]
theorem deadT_len (l : List SMatch) (n : Nat) : (deadT l n).length ≤ n := by
  unfold deadT
  rw [List.length_map]
  exact Nat.le_trans (List.length_filter_le _ _) (by simp)
theorem deadAt_yes (l : List SMatch) (i j : Nat) (hi : i < l.length) (hj : j < i) (h : coversM (l.getD j eMatch.zero) (l.getD i eMatch.zero) = true) : deadAt l i = true := by
  unfold deadAt
  rw [List.any_eq_true]
  refine ⟨l.getD j eMatch.zero, ?_, h⟩
  have e := getD_take' l i j eMatch.zero hj
  rw [← e]
  exact getD_mem _ _ _ (by simp; omega)
theorem deadAt_no (l : List SMatch) (i : Nat) (hi : i ≤ l.length) (h : ∀ q : Nat, (q : Int) < i → coversM (l.getD q eMatch.zero) (l.getD i eMatch.zero) = false) : deadAt l i = false := by
  rw [Bool.eq_false_iff]
  intro ht
  unfold deadAt at ht
  obtain ⟨m, hm, hc⟩ := List.any_eq_true.1 ht
  obtain ⟨q, hq, rfl⟩ := List.mem_iff_getElem.1 hm
  have hq2 : q < i := by simp at hq; omega
  have e : (l.take i)[q] = l.getD q eMatch.zero := by
    have : q < l.length := by omega
    simp [List.getD, this]
  rw [e, h q (by omega)] at hc
  cases hc

theorem en25 : Enters Try.prog 25 := Enters.mk' (by kernel_rfl)

theorem z3 : (Try.prog.info? 3).bind (·.zero) = some (iE.val iE.zero) := by kernel_rfl

theorem dead_ok (b : Nat) (l : List SMatch) (w : World) (hR : RulesAt w b l) (hll : l.length ≤ 256) : Calls Try.prog 17 #[.pointer (some ⟨b, 0, none⟩)] w (RetO w iE (deadB l) 3) := by
  obtain ⟨mo, ao, os, bs, hr, hmo, hao, hol, hcl⟩ := hR
  have hml := hmo.le
  have hal := hao.le
  refine enter0 41 Try.func17 rfl rfl (Nat.le_of_ble_eq_true rfl) ?_
  refine seq ?_
  refine region ?_
  refine cons (opv (Ev.assign (.c (v := (Go.Value.slice none 0 0)) rfl)) ?_)
  refine nil ?_
  refine pN ?_
  refine seq ?_
  refine seq ?_
  refine region ?_
  refine cons (opv (Ev.move (.t rfl)) ?_)
  refine cons (opv (Ev.eql_p Try.underlying43 (.t rfl) (.c rfl)) ?_)
  refine nil ?_
  refine pN ?_
  refine condF rfl (rfl) ?_
  refine skip ?_
  refine pN ?_
  refine seq ?_
  refine region ?_
  refine cons (opv (Ev.assign (.c (v := (Go.Value.slice none 0 0)) rfl)) ?_)
  refine takeNil iE 3 ?_
  refine nil ?_
  refine pN ?_
  refine seq ?_
  refine seq ?_
  refine region ?_
  refine cons (opv (Ev.move (.t rfl)) ?_)
  refine cons (opv (Ev.nilCheck (.t rfl)) ?_)
  refine cons (opv (Ev.fieldAddr (o := 0) (.t rfl) (by kernel_rfl)) ?_)
  refine cons (opv (Ev.load ty41 (.t rfl) (ptsL (fun w I => hr.keep I.keeps) SRuleRules.l_matches_)) ?_)
  refine cons (opv (Ev.len Try.underlying41 (.t rfl) (fun w I => hmo.keep0 I.keeps)) ?_)
  refine cons (opv (Ev.move (.c (v := I 0) rfl)) ?_)
  refine nil ?_
  refine pN ?_
  refine block ?_
  refine loop (X := Int × OV × (List Int)) (fun x : Int × OV × (List Int) => (0 ≤ x.1 ∧ x.1 ≤ l.length) ∧ (x.2.2 = deadT l x.1.toNat)) (fun x : Int × OV × (List Int) => [(0, true, .pointer (some ⟨b, 0, none⟩)), (3, true, x.2.1.v), (13, true, mo.v), (14, true, I l.length), (15, true, I x.1)]) (fun x : Int × OV × (List Int) => [OwnS x.2.1.v iE x.2.2 3]) (fun x : Int × OV × (List Int) => (l.length - x.1).toNat) (0, nilSl, []) ⟨?_, ?_⟩ (by repeat first | exact Sub.nil | refine Sub.cons rfl ?_) (by repeat first | exact sR | exact sN | apply sC | apply sS | apply sA) (fun x hx => ?_)
  · omega
  · rfl
  obtain ⟨i, o, ds⟩ := x
  obtain ⟨hi, hd⟩ : (0 ≤ i ∧ i ≤ l.length) ∧ (ds = deadT l i.toNat) := hx
  show Sat _ _ [(0, true, .pointer (some ⟨b, 0, none⟩)), (3, true, o.v), (13, true, mo.v), (14, true, I l.length), (15, true, I i)] [OwnS o.v iE ds 3]
  have hdl := deadT_len l i.toNat
  rw [← hd] at hdl
  refine seq ?_
  refine region ?_
  refine cons (opv (Ev.lss_i (.t rfl) (.t rfl)) ?_)
  refine nil ?_
  refine pN ?_
  refine seq ?_
  first | refine condD rfl (fun hlt => ?_) (fun hge => ?_) | refine cond rfl (fun hlt => ?_) (fun hge => ?_)
  · try simp only [Bool.and_eq_true, Bool.or_eq_true, Bool.or_eq_false_iff, Bool.and_eq_false_iff, Bool.not_eq_true', Bool.not_eq_false', decide_eq_true_eq, decide_eq_false_iff_not, Decidable.not_not] at hlt
    refine skip ?_
    refine pN ?_
    refine seq ?_
    refine block ?_
    refine seq ?_
    refine region ?_
    refine cons (opv (Ev.move (.t rfl)) ?_)
    refine cons (opv (Ev.indexAddr Try.underlying41 ty31 (.t rfl) (.t rfl) (fun w I => hmo.keep0 I.keeps) (fun _ => by omega)) ?_)
    refine cons (opv (Ev.loadS0 ty31 (.t rfl) (fun w I => hmo.keep0 I.keeps) (fun _ => by omega)) ?_)
    refine cons (alloc z31 (fun b1 => ?_))
    refine cons (opv (Ev.assign (.t rfl)) ?_)
    refine cons (storeV ty31 (Lens.id _) (.t rfl) (.t rfl) (by repeat first | exact Upd.head | apply Upd.tail | apply Upd.right) ?_)
    refine nil ?_
    refine pN ?_
    refine seq ?_
    refine region ?_
    refine cons (opv (Ev.move (.t rfl)) ?_)
    refine cons (opv (Ev.nilCheck (.t rfl)) ?_)
    refine cons (opv (Ev.fieldAddr (o := 0) (.t rfl) (by kernel_rfl)) ?_)
    refine cons (opv (Ev.load ty41 (.t rfl) (ptsL (fun w I => hr.keep I.keeps) SRuleRules.l_matches_)) ?_)
    have hsub : IsSl eMatch w (subS eMatch.size mo.v 0 i.toNat) (l.take i.toNat) := by
      have := hmo.sub (l := 0) (k := i.toNat) (by omega) (by omega)
      simpa using this
    have htl : (l.take i.toNat).length = i.toNat := by simp; omega
    refine cons (opv (Ev.move (.t rfl)) ?_)
    refine cons (opv (Ev.sliceH Try.underlying41 ty31 (.t rfl) (.t rfl) (fun w I => hmo.keep0 I.keeps) (fun _ => by omega)) ?_)
    refine cons (opv (Ev.len Try.underlying41 (.t rfl) (fun w I => IsSl.sub (w := w) (hmo.keep0 I.keeps) (by omega) (by omega))) ?_)
    refine cons (opv (Ev.move (.c (v := I 0) rfl)) ?_)
    refine nil ?_
    refine pN ?_
    refine block ?_
    refine loop (X := Int) (fun x : Int => (0 ≤ x ∧ x ≤ i) ∧ (∀ q : Nat, (q : Int) < x → coversM (l.getD q eMatch.zero) (l.getD i.toNat eMatch.zero) = false)) (fun x : Int => [(0, true, .pointer (some ⟨b, 0, none⟩)), (3, true, o.v), (4, true, I i), (5, true, .pointer (some ⟨b1, 0, none⟩)), (13, true, mo.v), (14, true, I l.length), (15, true, I i), (25, true, subS eMatch.size mo.v 0 i.toNat), (26, true, I (l.take i.toNat).length), (27, true, I x)]) (fun x : Int => [Var b1 eMatch (l.getD i.toNat eMatch.zero) 31, OwnS o.v iE ds 3]) (fun x : Int => (i - x).toNat) (0) ⟨?_, ?_⟩ (by repeat first | exact Sub.nil | refine Sub.cons rfl ?_) (by repeat first | exact sR | exact sN | apply sC | apply sS | apply sA) (fun x hx => ?_)
    · omega
    · intro q hq; omega
    obtain ⟨j, rfl⟩ : ∃ y, y = x := ⟨x, rfl⟩
    obtain ⟨hj, hn⟩ : (0 ≤ j ∧ j ≤ i) ∧ (∀ q : Nat, (q : Int) < j → coversM (l.getD q eMatch.zero) (l.getD i.toNat eMatch.zero) = false) := hx
    show Sat _ _ [(0, true, .pointer (some ⟨b, 0, none⟩)), (3, true, o.v), (4, true, I i), (5, true, .pointer (some ⟨b1, 0, none⟩)), (13, true, mo.v), (14, true, I l.length), (15, true, I i), (25, true, subS eMatch.size mo.v 0 i.toNat), (26, true, I (l.take i.toNat).length), (27, true, I j)] [Var b1 eMatch (l.getD i.toNat eMatch.zero) 31, OwnS o.v iE ds 3]
    refine seq ?_
    refine region ?_
    refine cons (opv (Ev.lss_i (.t rfl) (.t rfl)) ?_)
    refine nil ?_
    refine pN ?_
    refine seq ?_
    first | refine condD rfl (fun hlt2 => ?_) (fun hge2 => ?_) | refine cond rfl (fun hlt2 => ?_) (fun hge2 => ?_)
    · try simp only [Bool.and_eq_true, Bool.or_eq_true, Bool.or_eq_false_iff, Bool.and_eq_false_iff, Bool.not_eq_true', Bool.not_eq_false', decide_eq_true_eq, decide_eq_false_iff_not, Decidable.not_not] at hlt2
      refine skip ?_
      refine pN ?_
      refine seq ?_
      refine block ?_
      refine seq ?_
      refine region ?_
      refine cons (opv (Ev.indexAddr Try.underlying41 ty31 (.t rfl) (.t rfl) (fun w I => hsub.keep0 I.keeps) (fun _ => by omega)) ?_)
      refine cons (opv (Ev.loadS0 ty31 (.t rfl) (fun w I => hsub.keep0 I.keeps) (fun _ => by omega)) ?_)
      refine cons (alloc z31 (fun b2 => ?_))
      refine cons (storeV ty31 (Lens.id _) (.t rfl) (.t rfl) (by repeat first | exact Upd.head | apply Upd.tail | apply Upd.right) ?_)
      refine nil ?_
      refine pN ?_
      refine seq ?_
      refine region ?_
      refine cons (opv (Ev.load ty31 (.t rfl) (ptsVar (by repeat first | exact mH | apply mT | apply mA) (Lens.id _))) ?_)
      refine cons (opv (Ev.load ty31 (.t rfl) (ptsVar (by repeat first | exact mH | apply mT | apply mA) (Lens.id _))) ?_)
      refine cons (callv en25 (.cons (.t rfl) (.cons (.t rfl) .nil)) (fun w I => covers_ok _ _ w) ?_)
      refine nil ?_
      refine pN ?_
      first | refine condD rfl (fun h3 => ?_) (fun h3 => ?_) | refine cond rfl (fun h3 => ?_) (fun h3 => ?_)
      · have hst : deadT l (i + 1).toNat = deadT l i.toNat ++ [i] := by
          have e : (i + 1).toNat = i.toNat + 1 := by omega
          have e2 : (i.toNat : Int) = i := by omega
          have h3b := h3
          rw [show (l.take i.toNat).getD j.toNat eMatch.zero = l.getD j.toNat eMatch.zero from getD_take' l i.toNat j.toNat _ (by omega)] at h3b
          rw [e, deadT_step, deadAt_yes l i.toNat j.toNat (by omega) (by omega) h3b, e2]; rfl
        refine seq ?_
        refine region ?_
        refine cons (opv (Ev.move (.t rfl)) ?_)
        refine cons (opv (Ev.move (.t rfl)) ?_)
        refine cons (buildSlice (E := iE) Try.underlying46 ty3 z3 (.cons (.t rfl) .nil) rfl rfl (fun v3 => ?_))
        refine cons (append (E := iE) Try.underlying46 ty3 rfl zb3 zs3 (.t rfl) (.t rfl) (fun _ => by repeat first | exact Upd.head | apply Upd.tail | apply Upd.right) (by first | exact isSl_own (by repeat first | exact mH | apply mT | apply mA) | exact fun w I => IsSl.keep0 (by assumption) I.keeps) (⟨by (show _ ≤ 9223372036854775807); first | omega | (simp; done) | (simp; omega), by first | omega | (simp; done) | (simp; omega)⟩) (fun v4 => ?_))
        refine cons (opv (Ev.assign (.t rfl)) ?_)
        refine nil ?_
        refine pN ?_
        refine exit ?_
        refine bO rfl ?_
        refine pX ?_
        refine pX ?_
        refine bX ?_
        refine bN ?_
        refine pN ?_
        refine region ?_
        refine cons (opv (Ev.add_i (.t rfl) (.c (v := I 1) rfl) (fun _ => by omega)) ?_)
        refine cons (opv (Ev.move (.t rfl)) ?_)
        refine nil ?_
        refine pN ?_
        refine next (X := Int × OV × (List Int)) (i + 1, _, _) ⟨?_, ?_⟩ ?_ (by repeat first | exact Sub.nil | refine Sub.cons rfl ?_) (by repeat first | exact sR | exact sN | apply sC | apply sS | apply sA)
        · try dsimp only
          omega
        · try dsimp only
          rw [hst, ← hd]
        · try dsimp only
          omega
      · have h3b : coversM (l.getD j.toNat eMatch.zero) (l.getD i.toNat eMatch.zero) = false := by
          have e := getD_take' l i.toNat j.toNat eMatch.zero (by omega)
          rw [← e]; simpa using h3
        refine skip ?_
        refine bN ?_
        refine pN ?_
        refine region ?_
        refine cons (opv (Ev.add_i (.t rfl) (.c (v := I 1) rfl) (fun _ => by omega)) ?_)
        refine cons (opv (Ev.move (.t rfl)) ?_)
        refine nil ?_
        refine pN ?_
        refine next (X := Int) (j + 1) ⟨?_, ?_⟩ ?_ (by repeat first | exact Sub.nil | refine Sub.cons rfl ?_) (by repeat first | exact sR | exact sN | apply sC | apply sS | apply sA)
        · try dsimp only
          omega
        · try dsimp only
          intro q hq
          by_cases e : q = j.toNat
          · rw [e]; exact h3b
          · exact hn q (by omega)
        · try dsimp only
          omega
    · try simp only [Bool.and_eq_true, Bool.or_eq_true, Bool.or_eq_false_iff, Bool.and_eq_false_iff, Bool.not_eq_true', Bool.not_eq_false', decide_eq_true_eq, decide_eq_false_iff_not, Decidable.not_not] at hge2
      have hst : deadT l (i + 1).toNat = deadT l i.toNat := by
        have e : (i + 1).toNat = i.toNat + 1 := by omega
        rw [e, deadT_step, deadAt_no l i.toNat (by omega) (fun q hq => hn q (by omega))]; rfl
      refine exit ?_
      refine pX ?_
      refine pX ?_
      refine bX ?_
      refine bN ?_
      refine pN ?_
      refine region ?_
      refine cons (opv (Ev.add_i (.t rfl) (.c (v := I 1) rfl) (fun _ => by omega)) ?_)
      refine cons (opv (Ev.move (.t rfl)) ?_)
      refine nil ?_
      refine pN ?_
      refine next (X := Int × OV × (List Int)) (i + 1, _, _) ⟨?_, ?_⟩ ?_ (by repeat first | exact Sub.nil | refine Sub.cons rfl ?_) (by repeat first | exact sR | exact sN | apply sC | apply sS | apply sA)
      · try dsimp only
        omega
      · try dsimp only
        rw [hst, ← hd]
      · try dsimp only
        omega
  · try simp only [Bool.and_eq_true, Bool.or_eq_true, Bool.or_eq_false_iff, Bool.and_eq_false_iff, Bool.not_eq_true', Bool.not_eq_false', decide_eq_true_eq, decide_eq_false_iff_not, Decidable.not_not] at hge
    refine exit ?_
    refine pX ?_
    refine pX ?_
    refine bX ?_
    refine pN ?_
    refine seq ?_
    refine region ?_
    refine cons (opv (Ev.move (.t rfl)) ?_)
    refine cons (opv (Ev.assign (.t rfl)) ?_)
    refine nil ?_
    refine pN ?_
    refine ret ?_
    refine done rfl (.tmp rfl .nil) (retOE (by repeat first | exact mH | apply mT | apply mA) ?_)
    rw [hd]
    unfold deadB
    have e : i.toNat = l.length := by omega
    rw [e]

theorem z25 : (Try.prog.info? 25).bind (·.zero) = some ((arrE 16 u8E).val (arrE 16 u8E).zero) := by kernel_rfl

theorem ten_ok (n : Int) (w : World) : Calls Try.prog 30 #[I n] w (RetV w (ePrefix.val { addr := { v6 := false, b := (Vector.replicate 16 0).set 0 10 }, bits := n })) := by
  refine enter0 7 Try.func30 rfl rfl (Nat.le_of_ble_eq_true rfl) ?_
  refine seq ?_
  refine region ?_
  refine cons (alloc z29 (fun b1 => ?_))
  refine nil ?_
  refine pN ?_
  refine seq ?_
  refine region ?_
  refine cons (opv (Ev.buildA z25 Try.underlying25 ty5 (.cons (.c (v := U8 10) rfl) .nil) (Fills.cons (lArr u8E 0 (by decide)) rfl Fills.nil)) ?_)
  refine cons (opv (Ev.buildS (fs := _) (places := [(0, 1), (1, 16)]) z27 rfl Try.underlying27 (by kernel_rfl) (.cons (.t rfl) .nil) (Fills.cons SAddr.l_b rfl Fills.nil)) ?_)
  refine cons (opv (Ev.move (.t rfl)) ?_)
  refine cons (opv (Ev.buildS (fs := _) (places := [(0, 17), (17, 1)]) z29 rfl Try.underlying29 (by kernel_rfl) (.cons (.t rfl) (.cons (.t rfl) .nil)) (Fills.cons SPrefix.l_addr rfl (Fills.cons SPrefix.l_bits rfl Fills.nil))) ?_)
  refine cons (storeV ty29 (Lens.id _) (.t rfl) (.t rfl) (by repeat first | exact Upd.head | apply Upd.tail | apply Upd.right) ?_)
  refine nil ?_
  refine pN ?_
  refine ret ?_
  refine done rfl (.cell rfl (fun w I => run_loadVar_pts ty29 (ptsVar (by repeat first | exact mH | apply mT | apply mA) (Lens.id _) w I)) .nil) (retE ?_)
  rfl

def lW : List SMatch := [{ eMatch.zero with asks := 2, src := { addr := { v6 := false, b := (Vector.replicate 16 0).set 0 10 }, bits := 8 } }, { eMatch.zero with asks := 1, in_ := ⟨3, 4⟩ }]
theorem lW_comp : compE lW = 0 := by decide +kernel

theorem en30 : Enters Try.prog 30 := Enters.mk' (by kernel_rfl)

theorem en16 : Enters Try.prog 16 := Enters.mk' (by kernel_rfl)

theorem z35 : (Try.prog.info? 35).bind (·.zero) = some (eHeader.val eHeader.zero) := by kernel_rfl

theorem ty35 : TyOK Try.prog 35 eHeader := TyOK.mk' (by kernel_rfl) (by kernel_rfl)

theorem en18 : Enters Try.prog 18 := Enters.mk' (by kernel_rfl)

theorem en17 : Enters Try.prog 17 := Enters.mk' (by kernel_rfl)

theorem works_ok (w : World) : Calls Try.prog 15 #[] w (RetV w (.bool true)) := by
  refine enter0 46 Try.func15 rfl rfl (Nat.le_of_ble_eq_true rfl) ?_
  refine seq ?_
  refine region ?_
  refine cons (opv (Ev.assign (.c (v := .bool false) rfl)) ?_)
  refine nil ?_
  refine pN ?_
  refine seq ?_
  refine region ?_
  refine cons (callv en30 (.cons (.c (v := I 8) rfl) .nil) (fun w I => ten_ok _ w) ?_)
  refine cons (opv (Ev.buildS (fs := _) (places := [(0, 1), (1, 2), (3, 18), (21, 18), (39, 1), (40, 2), (42, 2)]) z31 rfl Try.underlying31 (by kernel_rfl) (.cons (.c (v := U8 2) rfl) (.cons (.t rfl) .nil)) (Fills.cons SMatch.l_asks rfl (Fills.cons SMatch.l_src rfl Fills.nil))) ?_)
  refine cons (opv (Ev.buildS (fs := _) (places := [(0, 1), (1, 1)]) z24 rfl Try.underlying24 (by kernel_rfl) (.cons (.c (v := U16 3) rfl) (.cons (.c (v := U16 4) rfl) .nil)) (Fills.cons SSpan.l_from_ rfl (Fills.cons SSpan.l_to_ rfl Fills.nil))) ?_)
  refine cons (opv (Ev.buildS (fs := _) (places := [(0, 1), (1, 2), (3, 18), (21, 18), (39, 1), (40, 2), (42, 2)]) z31 rfl Try.underlying31 (by kernel_rfl) (.cons (.c (v := U8 1) rfl) (.cons (.t rfl) .nil)) (Fills.cons SMatch.l_asks rfl (Fills.cons SMatch.l_in_ rfl Fills.nil))) ?_)
  refine cons (buildSlice (E := eMatch) Try.underlying41 ty31 z31 (.cons (.t rfl) (.cons (.t rfl) .nil)) rfl rfl (fun v1 => ?_))
  refine cons (calln (X := Nat × List Res) (CompJ lW) (compV lW) (fun x => x.2) en16 (.cons (.t rfl) .nil) (fun w I => compile_ok _ lW w (isSl_own (by repeat first | exact mH | apply mT | apply mA) w I)) (fun x1 hx1 => ?_))
  have hRR := hx1 lW_comp
  refine cons (opv (Ev.move (.t rfl)) ?_)
  refine cons (opv (Ev.to (v' := .pointer (some ⟨x1.1, 0, none⟩)) (Ev.extract (.t rfl) rfl) (by unfold ptrC ptrO; rw [lW_comp]; rfl)) ?_)
  refine cons (opv (Ev.to (v' := I 0) (Ev.extract (.t rfl) rfl) (by rw [lW_comp])) ?_)
  refine cons (opv (Ev.assign (.t rfl)) ?_)
  refine cons (opv (Ev.assign (.t rfl)) ?_)
  refine nil ?_
  refine pN ?_
  refine seq ?_
  refine region ?_
  refine cons (opv (Ev.buildA z25 Try.underlying25 ty5 (.cons (.c (v := U8 10) rfl) (.cons (.c (v := U8 1) rfl) (.cons (.c (v := U8 2) rfl) (.cons (.c (v := U8 3) rfl) .nil)))) (Fills.cons (lArr u8E 0 (by decide)) rfl (Fills.cons (lArr u8E 1 (by decide)) rfl (Fills.cons (lArr u8E 2 (by decide)) rfl (Fills.cons (lArr u8E 3 (by decide)) rfl Fills.nil))))) ?_)
  refine cons (opv (Ev.buildS (fs := _) (places := [(0, 1), (1, 16)]) z27 rfl Try.underlying27 (by kernel_rfl) (.cons (.t rfl) .nil) (Fills.cons SAddr.l_b rfl Fills.nil)) ?_)
  refine cons (opv (Ev.buildS (fs := _) (places := [(0, 17), (17, 17), (34, 1), (35, 1), (36, 1), (37, 1), (38, 1), (39, 1), (40, 1), (41, 1), (42, 1)]) z35 rfl Try.underlying35 (by kernel_rfl) (.cons (.t rfl) .nil) (Fills.cons SHeader.l_src rfl Fills.nil)) ?_)
  refine cons (alloc z35 (fun b2 => ?_))
  refine cons (storeV ty35 (Lens.id _) (.t rfl) (.t rfl) (by repeat first | exact Upd.head | apply Upd.tail | apply Upd.right) ?_)
  refine nil ?_
  refine pN ?_
  refine seq ?_
  refine region ?_
  refine cons (opv (Ev.buildA z25 Try.underlying25 ty5 (.cons (.c (v := U8 11) rfl) (.cons (.c (v := U8 1) rfl) (.cons (.c (v := U8 2) rfl) (.cons (.c (v := U8 3) rfl) .nil)))) (Fills.cons (lArr u8E 0 (by decide)) rfl (Fills.cons (lArr u8E 1 (by decide)) rfl (Fills.cons (lArr u8E 2 (by decide)) rfl (Fills.cons (lArr u8E 3 (by decide)) rfl Fills.nil))))) ?_)
  refine cons (opv (Ev.buildS (fs := _) (places := [(0, 1), (1, 16)]) z27 rfl Try.underlying27 (by kernel_rfl) (.cons (.t rfl) .nil) (Fills.cons SAddr.l_b rfl Fills.nil)) ?_)
  refine cons (opv (Ev.buildS (fs := _) (places := [(0, 17), (17, 17), (34, 1), (35, 1), (36, 1), (37, 1), (38, 1), (39, 1), (40, 1), (41, 1), (42, 1)]) z35 rfl Try.underlying35 (by kernel_rfl) (.cons (.t rfl) .nil) (Fills.cons SHeader.l_src rfl Fills.nil)) ?_)
  refine cons (alloc z35 (fun b3 => ?_))
  refine cons (storeV ty35 (Lens.id _) (.t rfl) (.t rfl) (by repeat first | exact Upd.head | apply Upd.tail | apply Upd.right) ?_)
  refine nil ?_
  refine pN ?_
  refine seq ?_
  refine region ?_
  refine cons (opv (Ev.move (.t rfl)) ?_)
  refine cons (opv (Ev.eql_i (.t rfl) (.c (v := I 0) rfl)) ?_)
  refine cons (opv (Ev.to (v' := .bool true) (Ev.move (.t rfl)) (congrArg Value.bool (by decide +kernel))) ?_)
  refine cons (opg rfl rfl (Ev.move (.t rfl)) ?_)
  refine cons (opg rfl rfl (Ev.load ty35 (.t rfl) (ptsVar (by repeat first | exact mH | apply mT | apply mA) (Lens.id _))) ?_)
  refine cons (callg rfl rfl en18 (.cons (.g rfl id) (.cons (.c (v := I 3) rfl) (.cons (.g rfl id) .nil))) (fun hg w I => first_ok _ lW _ _ w (hRR w (fun r hr => (I.own r (by repeat first | exact List.mem_append_left _ hr | apply List.Mem.tail)).1))) ?_)
  refine cons (opg rfl rfl (Ev.eql_i (.g rfl id) (.c (v := I 0) rfl)) ?_)
  refine cons (opv (Ev.pickA (.t rfl) (fun {_} h => by cases h; rfl) ⟨_, rfl⟩ (by intro h1 h; first | (rw [h] <;> rfl) | (rw [h1, h] <;> rfl) | (rw [h, h1] <;> rfl) | simp_all) (.c (v := .bool false) rfl)) ?_)
  refine cons (opv (Ev.to (v' := .bool true) (Ev.move (.t rfl)) (congrArg Value.bool (by decide +kernel))) ?_)
  refine cons (opg rfl rfl (Ev.move (.t rfl)) ?_)
  refine cons (opg rfl rfl (Ev.load ty35 (.t rfl) (ptsVar (by repeat first | exact mH | apply mT | apply mA) (Lens.id _))) ?_)
  refine cons (callg rfl rfl en18 (.cons (.g rfl id) (.cons (.c (v := I 3) rfl) (.cons (.g rfl id) .nil))) (fun hg w I => first_ok _ lW _ _ w (hRR w (fun r hr => (I.own r (by repeat first | exact List.mem_append_left _ hr | apply List.Mem.tail)).1))) ?_)
  refine cons (opg rfl rfl (Ev.eql_i (.g rfl id) (.c (v := I 1) rfl)) ?_)
  refine cons (opv (Ev.pickA (.t rfl) (fun {_} h => by cases h; rfl) ⟨_, rfl⟩ (by intro h1 h; first | (rw [h] <;> rfl) | (rw [h1, h] <;> rfl) | (rw [h, h1] <;> rfl) | simp_all) (.c (v := .bool false) rfl)) ?_)
  refine cons (opv (Ev.to (v' := .bool true) (Ev.move (.t rfl)) (congrArg Value.bool (by decide +kernel))) ?_)
  refine cons (opg rfl rfl (Ev.move (.t rfl)) ?_)
  refine cons (opg rfl rfl (Ev.load ty35 (.t rfl) (ptsVar (by repeat first | exact mH | apply mT | apply mA) (Lens.id _))) ?_)
  refine cons (callg rfl rfl en18 (.cons (.g rfl id) (.cons (.c (v := I 5) rfl) (.cons (.g rfl id) .nil))) (fun hg w I => first_ok _ lW _ _ w (hRR w (fun r hr => (I.own r (by repeat first | exact List.mem_append_left _ hr | apply List.Mem.tail)).1))) ?_)
  refine cons (opg rfl rfl (Ev.eql_i (.g rfl id) (.c (v := I (-1)) rfl)) ?_)
  refine cons (opv (Ev.pickA (.t rfl) (fun {_} h => by cases h; rfl) ⟨_, rfl⟩ (by intro h1 h; first | (rw [h] <;> rfl) | (rw [h1, h] <;> rfl) | (rw [h, h1] <;> rfl) | simp_all) (.c (v := .bool false) rfl)) ?_)
  refine cons (opv (Ev.to (v' := .bool true) (Ev.move (.t rfl)) (congrArg Value.bool (by decide +kernel))) ?_)
  refine cons (opg rfl rfl (Ev.move (.t rfl)) ?_)
  refine cons (opgT rfl rfl rfl ?_)
  refine (callo en17 (.cons (.g rfl id) .nil) (fun w I => dead_ok _ lW w (hRR w (fun r hr => (I.own r (by repeat first | exact List.mem_append_left _ hr | apply List.Mem.tail)).1)) (by decide)) (fun v4 => ?_))
  refine cons (opg rfl rfl (Ev.len Try.underlying46 (.t rfl) (by first | exact isSl_own (by repeat first | exact mH | apply mT | apply mA) | exact fun w I => IsSl.keep0 (by assumption) I.keeps)) ?_)
  refine cons (opg rfl rfl (Ev.eql_i (.g rfl id) (.c (v := I 0) rfl)) ?_)
  refine cons (opv (Ev.pickA (.t rfl) (fun {_} h => by cases h; rfl) ⟨_, rfl⟩ (by intro h1 h; first | (rw [h] <;> rfl) | (rw [h1, h] <;> rfl) | (rw [h, h1] <;> rfl) | simp_all) (.c (v := .bool false) rfl)) ?_)
  refine cons (opv (Ev.assign (.t rfl)) ?_)
  refine nil ?_
  refine pN ?_
  refine ret ?_
  refine done rfl (.tmp rfl .nil) (retE ?_)
  exact congrArg Value.bool (by decide +kernel)
end Go.Proofs.Ytkmdhmfgbgngeaa
