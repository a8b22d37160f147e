/- packet -/
import Derived.Test.YtegcihhhighipaaP10
import Derived.Test.YtegcihhhighipaaGxN
set_option linter.unusedVariables false
set_option linter.unusedSimpArgs false
namespace Go.Proofs.Ytegcihhhighipaa
open Go Go.Gx

/-- What stands behind the front. -/
def restOf (b : List UInt8) : List UInt8 := (b.take (frontB b).2.1.toNat).drop (frontN (frontB b).1).toNat
/-- What is wrong with a packet. -/
def readE (b : List UInt8) : Int :=
  if (frontB b).2.2 ≠ 0 then (frontB b).2.2
  else if (frontB b).2.1 < frontN (frontB b).1 ∨ 2048 < (frontB b).2.1 then 161
  else if (b.length : Int) < (frontB b).2.1 then 160
  else if (frontB b).1.src.v6 = false ∧ headB (frontB b).1 ((frontB b).2.1 - frontN (frontB b).1) ≠ b.take (frontN (frontB b).1).toNat then 162
  else midE (frontB b).1 (restOf b)
def readH (b : List UInt8) : SHeader := if readE b = 0 then midH (frontB b).1 (restOf b) else eHeader.zero
def readN (b : List UInt8) : Int := if readE b = 0 then (frontB b).2.1 else 0
def readD (b : List UInt8) : List UInt8 := midD (frontB b).1 (restOf b)
/-- What Read hands back. -/
def RetR (w : World) (b : List UInt8) : Ending → World → Prop :=
  RetN w (fun o : OV => readE b ≠ 0 → o = nilSl) (fun o => .tuple #[eHeader.val (wD (readH b) o), I (readN b), I (readE b)]) (fun o => if readE b = 0 then [OwnS o.v u8E (readD b) 5] else [])
theorem midE_len (h : SHeader) (b : List UInt8) (he : midE h b = 0) : ¬ (b.length : Int) < midN h.proto := fun hn => by
  unfold midE at he
  rw [if_pos hn] at he
  exact absurd he (by decide)
theorem retR_bad {w0 : World} {n : Nat} {L : List Res} {b : List UInt8} {e : Int} (he : readE b = e) (hn : e ≠ 0) : ∀ w, WInv ⟨n, w0, Nope⟩ L w → RetR w0 b (.returned (.tuple #[eHeader.val eHeader.zero, I 0, I e])) w := by
  subst he
  exact retN nilSl (fun _ => rfl) (by unfold readH readN; rw [if_neg hn, if_neg hn]; rfl) (by rw [if_neg hn]; exact List.nil_sublist _)
theorem frontN_cases (h : SHeader) : h.src.v6 = true ∧ frontN h = 40 ∨ h.src.v6 = false ∧ frontN h = 20 := by unfold frontN; cases h.src.v6 <;> simp

theorem en49 : Enters Try.prog 49 := Enters.mk' (by kernel_rfl)

theorem en50 : Enters Try.prog 50 := Enters.mk' (by kernel_rfl)

theorem read_ok (v : Value) (b : List UInt8) (w : World) (hb : IsSl u8E w v b) : Calls Try.prog 22 #[v] w (RetR w b) := by
  have hfc := frontN_cases (frontB b).1
  have hbl := hb.le
  have hfl : frontN ((Lens.id eHeader).get ((Lens.id eHeader).set eHeader.zero (frontB b).fst)) = frontN (frontB b).1 := rfl
  refine enter0 69 Try.func22 rfl rfl (Nat.le_of_ble_eq_true rfl) ?_
  refine seq ?_
  refine region ?_
  refine cons (alloc z29 (fun b1 => ?_))
  refine cons (opv (Ev.assign (.c (v := I 0) rfl)) ?_)
  refine cons (opv (Ev.assign (.c (v := I 0) rfl)) ?_)
  refine nil ?_
  refine pN ?_
  refine seq ?_
  refine region ?_
  refine cons (opv (Ev.move (.t rfl)) ?_)
  refine cons (callv en49 (.cons (.t rfl) .nil) (fun w I => fronted_ok _ b w (hb.keep0 I.keeps)) ?_)
  refine cons (opv (Ev.move (.t rfl)) ?_)
  refine cons (opv (Ev.extract (.t rfl) rfl) ?_)
  refine cons (opv (Ev.extract (.t rfl) rfl) ?_)
  refine cons (opv (Ev.extract (.t rfl) rfl) ?_)
  refine cons (alloc z29 (fun b2 => ?_))
  refine cons (storeV ty29 (Lens.id _) (.t rfl) (.t rfl) (by repeat first | exact Upd.head | apply Upd.tail | apply Upd.right) ?_)
  refine cons (opv (Ev.assign (.t rfl)) ?_)
  refine cons (opv (Ev.assign (.t rfl)) ?_)
  refine nil ?_
  refine pN ?_
  refine seq ?_
  refine seq ?_
  refine region ?_
  refine cons (opv (Ev.move (.t rfl)) ?_)
  refine cons (opv (Ev.neq_i (.t rfl) (.c (v := I 0) rfl)) ?_)
  refine nil ?_
  refine pN ?_
  first | refine condD rfl (fun h0 => ?_) (fun h0 => ?_) | refine cond rfl (fun h0 => ?_) (fun h0 => ?_)
  · try simp only [Bool.and_eq_true, Bool.or_eq_true, Bool.or_eq_false_iff, Bool.and_eq_false_iff, Bool.not_eq_true', Bool.not_eq_false', decide_eq_true_eq, decide_eq_false_iff_not, Decidable.not_not] at h0
    have h0 : ((frontB b).2.2 ≠ 0) := h0
    refine seq ?_
    refine region ?_
    refine cons (opv (Ev.buildS (fs := _) (places := [(0, 17), (17, 17), (34, 1), (35, 1), (36, 1), (37, 1), (38, 1), (39, 1), (40, 1), (41, 1), (42, 1)]) z29 rfl Try.underlying29 (by kernel_rfl) .nil Fills.nil) ?_)
    refine cons (opv (Ev.move (.t rfl)) ?_)
    refine cons (storeV ty29 (Lens.id _) (.t rfl) (.t rfl) (by repeat first | exact Upd.head | apply Upd.tail | apply Upd.right) ?_)
    refine cons (opv (Ev.assign (.c (v := I 0) rfl)) ?_)
    refine cons (opv (Ev.assign (.t rfl)) ?_)
    refine nil ?_
    refine pN ?_
    refine ret ?_
    refine pR ?_
    refine done rfl (.cell rfl (fun w I => run_loadVar_pts ty29 (ptsVar (by repeat first | exact mH | apply mT | apply mA) (Lens.id _) w I)) (.tmp rfl (.tmp rfl .nil))) (fun w I => ?_)
    exact retR_bad (by unfold readE; rw [if_pos h0]) h0 w I
  · try simp only [Bool.and_eq_true, Bool.or_eq_true, Bool.or_eq_false_iff, Bool.and_eq_false_iff, Bool.not_eq_true', Bool.not_eq_false', decide_eq_true_eq, decide_eq_false_iff_not, Decidable.not_not] at h0
    have h0 : ¬ ((frontB b).2.2 ≠ 0) := fun k => k h0
    refine skip ?_
    refine pN ?_
    refine seq ?_
    refine region ?_
    refine cons (opv (Ev.load ty29 (.t rfl) (ptsVar (by repeat first | exact mH | apply mT | apply mA) (Lens.id _))) ?_)
    refine cons (callv en40 (.cons (.t rfl) .nil) (fun w I => front_ok _ w) ?_)
    refine cons (opv (Ev.assign (.t rfl)) ?_)
    refine nil ?_
    refine pN ?_
    refine seq ?_
    refine block ?_
    refine seq ?_
    refine region ?_
    refine cons (opv (Ev.move (.t rfl)) ?_)
    refine cons (opv (Ev.move (.t rfl)) ?_)
    refine cons (opv (Ev.lss_i (.t rfl) (.t rfl)) ?_)
    refine cons (opv (Ev.move (.t rfl)) ?_)
    refine cons (opg rfl rfl (Ev.move (.t rfl)) ?_)
    refine cons (opg rfl rfl (Ev.gtr_i (.g rfl id) (.c (v := I 2048) rfl)) ?_)
    refine cons (opv (Ev.pickO (.t rfl) (.c (v := .bool true) rfl) (fun {_} h => by cases h; rfl) ⟨_, rfl⟩ (by intro h1 h; first | (rw [h] <;> rfl) | (rw [h1, h] <;> rfl) | (rw [h, h1] <;> rfl) | simp_all)) ?_)
    refine cons (opv (Ev.assign (.t rfl)) ?_)
    refine nil ?_
    refine pN ?_
    first | refine condD rfl (fun h1 => ?_) (fun h1 => ?_) | refine cond rfl (fun h1 => ?_) (fun h1 => ?_)
    · try simp only [Bool.and_eq_true, Bool.or_eq_true, Bool.or_eq_false_iff, Bool.and_eq_false_iff, Bool.not_eq_true', Bool.not_eq_false', decide_eq_true_eq, decide_eq_false_iff_not, Decidable.not_not] at h1
      have h1 : ((frontB b).2.1 < frontN (frontB b).1 ∨ 2048 < (frontB b).2.1) := h1
      refine seq ?_
      refine region ?_
      refine cons (opv (Ev.buildS (fs := _) (places := [(0, 17), (17, 17), (34, 1), (35, 1), (36, 1), (37, 1), (38, 1), (39, 1), (40, 1), (41, 1), (42, 1)]) z29 rfl Try.underlying29 (by kernel_rfl) .nil Fills.nil) ?_)
      refine cons (storeV ty29 (Lens.id _) (.t rfl) (.t rfl) (by repeat first | exact Upd.head | apply Upd.tail | apply Upd.right) ?_)
      refine cons (opv (Ev.assign (.c (v := I 0) rfl)) ?_)
      refine cons (opv (Ev.assign (.c (v := I 161) rfl)) ?_)
      refine nil ?_
      refine pN ?_
      refine ret ?_
      refine bR ?_
      refine pR ?_
      refine done rfl (.cell rfl (fun w I => run_loadVar_pts ty29 (ptsVar (by repeat first | exact mH | apply mT | apply mA) (Lens.id _) w I)) (.tmp rfl (.tmp rfl .nil))) (fun w I => ?_)
      exact retR_bad (by unfold readE; rw [if_neg h0, if_pos h1]) (by decide) w I
    · try simp only [Bool.and_eq_true, Bool.or_eq_true, Bool.or_eq_false_iff, Bool.and_eq_false_iff, Bool.not_eq_true', Bool.not_eq_false', decide_eq_true_eq, decide_eq_false_iff_not, Decidable.not_not] at h1
      have h1 : ¬ ((frontB b).2.1 < frontN (frontB b).1 ∨ 2048 < (frontB b).2.1) := fun k => k.elim h1.1 h1.2
      refine seq ?_
      refine region ?_
      refine cons (opv (Ev.move (.t rfl)) ?_)
      refine cons (opv (Ev.len Try.underlying27 (.t rfl) (by first | exact isSl_own (by repeat first | exact mH | apply mT | apply mA) | exact fun w I => IsSl.keep0 (by assumption) I.keeps)) ?_)
      refine cons (opv (Ev.move (.t rfl)) ?_)
      refine cons (opv (Ev.lss_i (.t rfl) (.t rfl)) ?_)
      refine cons (opv (Ev.assign (.t rfl)) ?_)
      refine nil ?_
      refine pN ?_
      first | refine condD rfl (fun h2 => ?_) (fun h2 => ?_) | refine cond rfl (fun h2 => ?_) (fun h2 => ?_)
      · try simp only [Bool.and_eq_true, Bool.or_eq_true, Bool.or_eq_false_iff, Bool.and_eq_false_iff, Bool.not_eq_true', Bool.not_eq_false', decide_eq_true_eq, decide_eq_false_iff_not, Decidable.not_not] at h2
        have h2 : ((b.length : Int) < (frontB b).2.1) := h2
        refine seq ?_
        refine region ?_
        refine cons (opv (Ev.buildS (fs := _) (places := [(0, 17), (17, 17), (34, 1), (35, 1), (36, 1), (37, 1), (38, 1), (39, 1), (40, 1), (41, 1), (42, 1)]) z29 rfl Try.underlying29 (by kernel_rfl) .nil Fills.nil) ?_)
        refine cons (storeV ty29 (Lens.id _) (.t rfl) (.t rfl) (by repeat first | exact Upd.head | apply Upd.tail | apply Upd.right) ?_)
        refine cons (opv (Ev.assign (.c (v := I 0) rfl)) ?_)
        refine cons (opv (Ev.assign (.c (v := I 160) rfl)) ?_)
        refine nil ?_
        refine pN ?_
        refine ret ?_
        refine bR ?_
        refine pR ?_
        refine done rfl (.cell rfl (fun w I => run_loadVar_pts ty29 (ptsVar (by repeat first | exact mH | apply mT | apply mA) (Lens.id _) w I)) (.tmp rfl (.tmp rfl .nil))) (fun w I => ?_)
        exact retR_bad (by unfold readE; rw [if_neg h0, if_neg h1, if_pos h2]) (by decide) w I
      · try simp only [Bool.and_eq_true, Bool.or_eq_true, Bool.or_eq_false_iff, Bool.and_eq_false_iff, Bool.not_eq_true', Bool.not_eq_false', decide_eq_true_eq, decide_eq_false_iff_not, Decidable.not_not] at h2
        have h2 : ¬ ((b.length : Int) < (frontB b).2.1) := h2
        refine seq ?_
        refine draw' (by kernel_rfl) ?_
        refine take 0 rfl (by kernel_rfl) (by kernel_rfl) (by kernel_rfl) (by repeat first | exact sR | exact sN | apply sC | apply sS | apply sA) (Ev.fieldAddr (o := 0) (.t rfl) (by kernel_rfl)) ?_
        refine take 1 rfl (by kernel_rfl) (by kernel_rfl) (by kernel_rfl) (by repeat first | exact sR | exact sN | apply sC | apply sS | apply sA) (Ev.fieldAddr (o := 0) (.t rfl) (by kernel_rfl)) ?_
        refine take 2 rfl (by kernel_rfl) (by kernel_rfl) (by kernel_rfl) (by repeat first | exact sR | exact sN | apply sC | apply sS | apply sA) (Ev.load ty4 (.t rfl) (ptsVar (by repeat first | exact mH | apply mT | apply mA) (Lens.comp SHeader.l_src SAddr.l_v6))) ?_
        refine take 3 rfl (by kernel_rfl) (by kernel_rfl) (by kernel_rfl) (by repeat first | exact sR | exact sN | apply sC | apply sS | apply sA) (Ev.not (.t rfl)) ?_
        refine take 4 rfl (by kernel_rfl) (by kernel_rfl) (by kernel_rfl) (by repeat first | exact sR | exact sN | apply sC | apply sS | apply sA) (Ev.move (.t rfl)) ?_
        refine takeg 5 rfl (by kernel_rfl) (by kernel_rfl) (by kernel_rfl) (by repeat first | exact sR | exact sN | apply sC | apply sS | apply sA) rfl rfl (Ev.load ty29 (.t rfl) (ptsVar (by repeat first | exact mH | apply mT | apply mA) (Lens.id _))) ?_
        refine takeg 6 rfl (by kernel_rfl) (by kernel_rfl) (by kernel_rfl) (by repeat first | exact sR | exact sN | apply sC | apply sS | apply sA) rfl rfl (Ev.move (.t rfl)) ?_
        refine takeg 7 rfl (by kernel_rfl) (by kernel_rfl) (by kernel_rfl) (by repeat first | exact sR | exact sN | apply sC | apply sS | apply sA) rfl rfl (Ev.move (.t rfl)) ?_
        refine takeg 8 rfl (by kernel_rfl) (by kernel_rfl) (by kernel_rfl) (by repeat first | exact sR | exact sN | apply sC | apply sS | apply sA) rfl rfl (Ev.sub_i (.g rfl id) (.g rfl id) (fun _ => by first | omega | (rename_i hg; simp at hg; omega))) ?_
        refine takeg 10 rfl (by kernel_rfl) (by kernel_rfl) (by kernel_rfl) (by repeat first | exact sR | exact sN | apply sC | apply sS | apply sA) rfl rfl (Ev.move (.t rfl)) ?_
        refine takeg 11 rfl (by kernel_rfl) (by kernel_rfl) (by kernel_rfl) (by repeat first | exact sR | exact sN | apply sC | apply sS | apply sA) rfl rfl (Ev.move (.t rfl)) ?_
        refine takeg 12 rfl (by kernel_rfl) (by kernel_rfl) (by kernel_rfl) (by repeat first | exact sR | exact sN | apply sC | apply sS | apply sA) rfl rfl (Ev.sliceH Try.underlying27 ty5 (.g rfl id) (.g rfl id) (by first | exact isSl_own (by repeat first | exact mH | apply mT | apply mA) | exact fun w I => IsSl.keep0 (by assumption) I.keeps) (fun _ => by first | omega | (rename_i hg; simp at hg; omega))) ?_
        refine all [9] (by kernel_rfl) (by decide) (.cons rfl ?_ .nil)
        refine (callgo rfl rfl en38 (.cons (.g rfl id) (.cons (.g rfl id) .nil)) (fun hg w I => head_ok _ _ w (by omega)) (fun v3 => ?_))
        refine heldN_of (by repeat first | exact sR | exact sN | apply sC | apply sS | apply sA) ?_
        refine all [13] (by kernel_rfl) (by decide) (.cons rfl ?_ .nil)
        refine (callg rfl rfl en48 (.cons (.g rfl id) (.cons (.g rfl id) .nil)) (fun hg w I => equal_ok _ _ _ _ w (isSl_gd (by repeat first | exact mH | apply mT | apply mA) hg w I) (IsSl.sub (hb.keep0 I.keeps) (by omega) (by omega))) ?_)
        refine heldN_of (by repeat first | exact sR | exact sN | apply sC | apply sS | apply sA) ?_
        refine takeg 14 rfl (by kernel_rfl) (by kernel_rfl) (by kernel_rfl) (by repeat first | exact sR | exact sN | apply sC | apply sS | apply sA) rfl rfl (Ev.not (.g rfl id)) ?_
        refine take 15 rfl (by kernel_rfl) (by kernel_rfl) (by kernel_rfl) (by repeat first | exact sR | exact sN | apply sC | apply sS | apply sA) (Ev.pickA (.t rfl) (fun {_} h => by cases h; rfl) ⟨_, rfl⟩ (by intro h1 h; first | (rw [h] <;> rfl) | (rw [h1, h] <;> rfl) | (rw [h, h1] <;> rfl) | simp_all) (.c (v := .bool false) rfl)) ?_
        refine take 16 rfl (by kernel_rfl) (by kernel_rfl) (by kernel_rfl) (by repeat first | exact sR | exact sN | apply sC | apply sS | apply sA) (Ev.assign (.t rfl)) ?_
        refine over (by kernel_rfl) ?_
        refine pN ?_
        first | refine condD rfl (fun h3 => ?_) (fun h3 => ?_) | refine cond rfl (fun h3 => ?_) (fun h3 => ?_)
        · try simp only [Bool.and_eq_true, Bool.or_eq_true, Bool.or_eq_false_iff, Bool.and_eq_false_iff, Bool.not_eq_true', Bool.not_eq_false', decide_eq_true_eq, decide_eq_false_iff_not, Decidable.not_not] at h3
          have h3 : ((frontB b).1.src.v6 = false ∧ headB (frontB b).1 ((frontB b).2.1 - frontN (frontB b).1) ≠ b.take (frontN (frontB b).1).toNat) := h3
          refine seq ?_
          refine region ?_
          refine cons (opv (Ev.buildS (fs := _) (places := [(0, 17), (17, 17), (34, 1), (35, 1), (36, 1), (37, 1), (38, 1), (39, 1), (40, 1), (41, 1), (42, 1)]) z29 rfl Try.underlying29 (by kernel_rfl) .nil Fills.nil) ?_)
          refine cons (storeV ty29 (Lens.id _) (.t rfl) (.t rfl) (by repeat first | exact Upd.head | apply Upd.tail | apply Upd.right) ?_)
          refine cons (opv (Ev.assign (.c (v := I 0) rfl)) ?_)
          refine cons (opv (Ev.assign (.c (v := I 162) rfl)) ?_)
          refine nil ?_
          refine pN ?_
          refine ret ?_
          refine bR ?_
          refine pR ?_
          refine done rfl (.cell rfl (fun w I => run_loadVar_pts ty29 (ptsVar (by repeat first | exact mH | apply mT | apply mA) (Lens.id _) w I)) (.tmp rfl (.tmp rfl .nil))) (fun w I => ?_)
          exact retR_bad (by unfold readE; rw [if_neg h0, if_neg h1, if_neg h2, if_pos h3]) (by decide) w I
        · try simp only [Bool.and_eq_true, Bool.or_eq_true, Bool.or_eq_false_iff, Bool.and_eq_false_iff, Bool.not_eq_true', Bool.not_eq_false', decide_eq_true_eq, decide_eq_false_iff_not, Decidable.not_not] at h3
          have h3 : ¬ ((frontB b).1.src.v6 = false ∧ headB (frontB b).1 ((frontB b).2.1 - frontN (frontB b).1) ≠ b.take (frontN (frontB b).1).toNat) := by
            rintro ⟨k1, k2⟩
            rcases h3 with k | k
            · have k0 : (frontB b).1.src.v6 = true := k
              rw [k1] at k0
              cases k0
            · exact k2 k
          have e3 : readE b = midE (frontB b).1 (restOf b) := by unfold readE; rw [if_neg h0, if_neg h1, if_neg h2, if_neg h3]
          refine skip ?_
          refine bN ?_
          refine pN ?_
          refine seq ?_
          refine seq ?_
          refine drawS 5 rfl (by repeat first | exact Rem.head | apply Rem.tail) (by kernel_rfl) ?_
          refine take 1 rfl (by kernel_rfl) (by kernel_rfl) (by kernel_rfl) (by repeat first | exact sR | exact sN | apply sC | apply sS | apply sA) (Ev.move (.t rfl)) ?_
          refine take 2 rfl (by kernel_rfl) (by kernel_rfl) (by kernel_rfl) (by repeat first | exact sR | exact sN | apply sC | apply sS | apply sA) (Ev.move (.t rfl)) ?_
          refine take 3 rfl (by kernel_rfl) (by kernel_rfl) (by kernel_rfl) (by repeat first | exact sR | exact sN | apply sC | apply sS | apply sA) (Ev.move (.t rfl)) ?_
          refine take 4 rfl (by kernel_rfl) (by kernel_rfl) (by kernel_rfl) (by repeat first | exact sR | exact sN | apply sC | apply sS | apply sA) (Ev.slice Try.underlying27 ty5 (.t rfl) (.t rfl) (.t rfl) (by first | exact isSl_own (by repeat first | exact mH | apply mT | apply mA) | exact fun w I => IsSl.keep0 (by assumption) I.keeps) (fun _ => by omega)) ?_
          refine all [0] (by kernel_rfl) (by decide) (.cons rfl ?_ .nil)
          refine (opv (Ev.load ty29 (.t rfl) (ptsVar (by repeat first | exact mH | apply mT | apply mA) (Lens.id _))) ?_)
          refine heldN_of (by repeat first | exact sR | exact sN | apply sC | apply sS | apply sA) ?_
          refine all [5] (by kernel_rfl) (by decide) (.cons rfl ?_ .nil)
          refine (calln (X := OV) (fun o : OV => ((restOf b).length : Int) < midN (frontB b).1.proto → o = (frontB b).1.data) (fun o => .tuple #[eHeader.val (wD (if ((restOf b).length : Int) < midN (frontB b).1.proto then (frontB b).1 else midH (frontB b).1 (restOf b)) o), I (midE (frontB b).1 (restOf b))]) (fun o => if ((restOf b).length : Int) < midN (frontB b).1.proto then [] else [OwnS o.v u8E (midD (frontB b).1 (restOf b)) 5]) en50 (.cons (.t rfl) (.cons (.t rfl) .nil)) (fun w I => middled_ok (frontB b).1 _ (restOf b) w (IsSl.sub (hb.keep0 I.keeps) (by omega) (by omega)) (by unfold restOf; simp; omega)) (fun x5 hx5 => ?_))
          refine heldN_of (by repeat first | exact sR | exact sN | apply sC | apply sS | apply sA) ?_
          refine take 6 rfl (by kernel_rfl) (by kernel_rfl) (by kernel_rfl) (by repeat first | exact sR | exact sN | apply sC | apply sS | apply sA) (Ev.move (.t rfl)) ?_
          refine take 7 rfl (by kernel_rfl) (by kernel_rfl) (by kernel_rfl) (by repeat first | exact sR | exact sN | apply sC | apply sS | apply sA) (Ev.extract (.t rfl) rfl) ?_
          refine take 8 rfl (by kernel_rfl) (by kernel_rfl) (by kernel_rfl) (by repeat first | exact sR | exact sN | apply sC | apply sS | apply sA) (Ev.extract (.t rfl) rfl) ?_
          refine all [9] (by kernel_rfl) (by decide) (.cons rfl ?_ .nil)
          refine (storeV ty29 (Lens.id _) (.t rfl) (.t rfl) (by repeat first | exact Upd.head | apply Upd.tail | apply Upd.right) ?_)
          refine heldN_of (by repeat first | exact sR | exact sN | apply sC | apply sS | apply sA) ?_
          refine take 10 rfl (by kernel_rfl) (by kernel_rfl) (by kernel_rfl) (by repeat first | exact sR | exact sN | apply sC | apply sS | apply sA) (Ev.assign (.t rfl)) ?_
          refine over (by kernel_rfl) ?_
          refine pN ?_
          refine seq ?_
          refine region ?_
          refine cons (opv (Ev.move (.t rfl)) ?_)
          refine cons (opv (Ev.neq_i (.t rfl) (.c (v := I 0) rfl)) ?_)
          refine nil ?_
          refine pN ?_
          first | refine condD rfl (fun h4 => ?_) (fun h4 => ?_) | refine cond rfl (fun h4 => ?_) (fun h4 => ?_)
          · try simp only [Bool.and_eq_true, Bool.or_eq_true, Bool.or_eq_false_iff, Bool.and_eq_false_iff, Bool.not_eq_true', Bool.not_eq_false', decide_eq_true_eq, decide_eq_false_iff_not, Decidable.not_not] at h4
            refine seq ?_
            refine region ?_
            refine cons (opv (Ev.buildS (fs := _) (places := [(0, 17), (17, 17), (34, 1), (35, 1), (36, 1), (37, 1), (38, 1), (39, 1), (40, 1), (41, 1), (42, 1)]) z29 rfl Try.underlying29 (by kernel_rfl) .nil Fills.nil) ?_)
            refine cons (opv (Ev.move (.t rfl)) ?_)
            refine cons (storeV ty29 (Lens.id _) (.t rfl) (.t rfl) (by repeat first | exact Upd.head | apply Upd.tail | apply Upd.right) ?_)
            refine cons (opv (Ev.assign (.c (v := I 0) rfl)) ?_)
            refine cons (opv (Ev.assign (.t rfl)) ?_)
            refine nil ?_
            refine pN ?_
            refine ret ?_
            refine pR ?_
            refine done rfl (.cell rfl (fun w I => run_loadVar_pts ty29 (ptsVar (by repeat first | exact mH | apply mT | apply mA) (Lens.id _) w I)) (.tmp rfl (.tmp rfl .nil))) (fun w I => ?_)
            exact retR_bad e3 h4 w I
          · try simp only [Bool.and_eq_true, Bool.or_eq_true, Bool.or_eq_false_iff, Bool.and_eq_false_iff, Bool.not_eq_true', Bool.not_eq_false', decide_eq_true_eq, decide_eq_false_iff_not, Decidable.not_not] at h4
            refine skip ?_
            refine pN ?_
            refine seq ?_
            refine region ?_
            refine cons (opv (Ev.load ty29 (.t rfl) (ptsVar (by repeat first | exact mH | apply mT | apply mA) (Lens.id _))) ?_)
            refine cons (opv (Ev.move (.t rfl)) ?_)
            refine cons (storeV ty29 (Lens.id _) (.t rfl) (.t rfl) (by repeat first | exact Upd.head | apply Upd.tail | apply Upd.right) ?_)
            refine cons (opv (Ev.assign (.t rfl)) ?_)
            refine cons (opv (Ev.assign (.c (v := I 0) rfl)) ?_)
            refine nil ?_
            refine pN ?_
            refine ret ?_
            refine done rfl (.cell rfl (fun w I => run_loadVar_pts ty29 (ptsVar (by repeat first | exact mH | apply mT | apply mA) (Lens.id _) w I)) (.tmp rfl (.tmp rfl .nil))) (fun w I => ?_)
            have e : readE b = 0 := by rw [e3]; exact h4
            exact retN x5 (fun hn => absurd e hn) (by unfold readH readN; rw [if_pos e, if_pos e, e]; show tupV [eHeader.val (wD (if ((restOf b).length : Int) < midN (frontB b).1.proto then (frontB b).1 else midH (frontB b).1 (restOf b)) x5), Go.Gx.I _, Go.Gx.I 0] = _; rw [if_neg (midE_len _ _ h4)]; rfl) (by rw [if_pos e]; show (List.Sublist _ ((if _ then _ else _) ++ _)); rw [if_neg (midE_len _ _ h4)]; exact List.cons_sublist_cons.2 (List.nil_sublist _)) w I
end Go.Proofs.Ytegcihhhighipaa
