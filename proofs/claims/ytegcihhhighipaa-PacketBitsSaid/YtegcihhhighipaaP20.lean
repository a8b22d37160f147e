/- packet -/
import Derived.Test.YtegcihhhighipaaP19
set_option linter.unusedVariables false
set_option linter.unusedSimpArgs false
namespace Go.Proofs.Ytegcihhhighipaa
open Go Go.Gx

theorem en63 : Enters Try.prog 63 := Enters.mk' (by kernel_rfl)

set_option maxHeartbeats 2000000 in
theorem rread_ok (v : Value) (b : List UInt8) (w : World) (hb : IsSl u8E w v b) : Calls Try.prog 51 #[v] w (RetR w b) := by
  have hfc := frontN_cases (frontB b).1
  have hbl := hb.le
  refine enter0 129 Try.func51 rfl rfl (Nat.le_of_ble_eq_true rfl) ?_
  refine seq ?_
  refine region ?_
  refine cons (alloc z29 (fun b1 => ?_))
  refine cons (opv (Ev.assign (.c (v := I 0) rfl)) ?_)
  refine cons (opv (Ev.assign (.c (v := I 0) rfl)) ?_)
  refine nil ?_
  refine pN ?_
  refine seq ?_
  refine region ?_
  refine cons (opv (Ev.move (.t rfl)) ?_)
  refine cons (callv en63 (.cons (.t rfl) .nil) (fun w I => rfronted_ok _ b w (hb.keep0 I.keeps)) ?_)
  refine cons (opv (Ev.move (.t rfl)) ?_)
  refine cons (opv (Ev.extract (.t rfl) rfl) ?_)
  refine cons (opv (Ev.extract (.t rfl) rfl) ?_)
  refine cons (opv (Ev.extract (.t rfl) rfl) ?_)
  refine cons (alloc z29 (fun b2 => ?_))
  refine cons (storeV ty29 (Lens.id _) (.t rfl) (.t rfl) (by repeat first | exact Upd.head | apply Upd.tail | apply Upd.right) ?_)
  refine cons (opv (Ev.assign (.t rfl)) ?_)
  refine cons (opv (Ev.assign (.t rfl)) ?_)
  refine nil ?_
  refine pN ?_
  refine seq ?_
  refine seq ?_
  refine region ?_
  show Sat _ _ _ [Var b2 eHeader (frontB b).1 29, Var b1 eHeader eHeader.zero 29]
  refine cons (opv (Ev.move (.t rfl)) ?_)
  refine cons (opv (Ev.neq_i (.t rfl) (.c (v := I 0) rfl)) ?_)
  refine nil ?_
  refine pN ?_
  first | refine condD rfl (fun h0 => ?_) (fun h0 => ?_) | refine cond rfl (fun h0 => ?_) (fun h0 => ?_)
  · try simp only [Bool.and_eq_true, Bool.or_eq_true, Bool.or_eq_false_iff, Bool.and_eq_false_iff, Bool.not_eq_true', Bool.not_eq_false', decide_eq_true_eq, decide_eq_false_iff_not, Decidable.not_not] at h0
    have h0 : ((frontB b).2.2 ≠ 0) := h0
    refine seq ?_
    refine region ?_
    refine cons (opv (Ev.buildS (fs := _) (places := [(0, 17), (17, 17), (34, 1), (35, 1), (36, 1), (37, 1), (38, 1), (39, 1), (40, 1), (41, 1), (42, 1)]) z29 rfl Try.underlying29 (by kernel_rfl) .nil Fills.nil) ?_)
    refine cons (opv (Ev.move (.t rfl)) ?_)
    refine cons (storeV ty29 (Lens.id _) (.t rfl) (.t rfl) (by repeat first | exact Upd.head | apply Upd.tail | apply Upd.right) ?_)
    refine cons (opv (Ev.assign (.c (v := I 0) rfl)) ?_)
    refine cons (opv (Ev.assign (.t rfl)) ?_)
    refine nil ?_
    refine pN ?_
    refine ret ?_
    refine pR ?_
    refine done rfl (.cell rfl (fun w I => run_loadVar_pts ty29 (ptsVar (by repeat first | exact mH | apply mT | apply mA) (Lens.id _) w I)) (.tmp rfl (.tmp rfl .nil))) (fun w I => ?_)
    exact retR_bad (by unfold readE; rw [if_pos h0]) h0 w I
  · try simp only [Bool.and_eq_true, Bool.or_eq_true, Bool.or_eq_false_iff, Bool.and_eq_false_iff, Bool.not_eq_true', Bool.not_eq_false', decide_eq_true_eq, decide_eq_false_iff_not, Decidable.not_not] at h0
    have h0 : ¬ ((frontB b).2.2 ≠ 0) := fun k => k h0
    refine skip ?_
    refine pN ?_
    refine seq ?_
    refine region ?_
    refine cons (opv (Ev.to (v' := eHeader.val (frontB b).1) (Ev.load ty29 (.t rfl) (ptsVar (by repeat first | exact mH | apply mT | apply mA) (Lens.id _))) (rfl)) ?_)
    refine cons (callv en32 (.cons (.t rfl) .nil) (fun w I => rfront_ok _ w) ?_)
    refine cons (opv (Ev.assign (.t rfl)) ?_)
    refine nil ?_
    refine pN ?_
    refine seq ?_
    refine seq ?_
    refine region ?_
    refine cons (opv (Ev.move (.t rfl)) ?_)
    refine cons (opv (Ev.move (.t rfl)) ?_)
    refine cons (opv (Ev.lss_i (.t rfl) (.t rfl)) ?_)
    refine cons (opv (Ev.move (.t rfl)) ?_)
    refine cons (opg rfl rfl (Ev.move (.t rfl)) ?_)
    refine cons (opg rfl rfl (Ev.gtr_i (.g rfl id) (.c (v := I 2048) rfl)) ?_)
    refine cons (opv (Ev.pickO (.t rfl) (.c (v := .bool true) rfl) (fun {_} h => by cases h; rfl) ⟨_, rfl⟩ (by intro h1 h; first | (rw [h] <;> rfl) | (rw [h1, h] <;> rfl) | (rw [h, h1] <;> rfl) | simp_all)) ?_)
    refine nil ?_
    refine pN ?_
    first | refine condD rfl (fun h1 => ?_) (fun h1 => ?_) | refine cond rfl (fun h1 => ?_) (fun h1 => ?_)
    · try simp only [Bool.and_eq_true, Bool.or_eq_true, Bool.or_eq_false_iff, Bool.and_eq_false_iff, Bool.not_eq_true', Bool.not_eq_false', decide_eq_true_eq, decide_eq_false_iff_not, Decidable.not_not] at h1
      have h1 : ((frontB b).2.1 < frontN (frontB b).1 ∨ 2048 < (frontB b).2.1) := h1
      refine seq ?_
      refine region ?_
      refine cons (opv (Ev.buildS (fs := _) (places := [(0, 17), (17, 17), (34, 1), (35, 1), (36, 1), (37, 1), (38, 1), (39, 1), (40, 1), (41, 1), (42, 1)]) z29 rfl Try.underlying29 (by kernel_rfl) .nil Fills.nil) ?_)
      refine cons (storeV ty29 (Lens.id _) (.t rfl) (.t rfl) (by repeat first | exact Upd.head | apply Upd.tail | apply Upd.right) ?_)
      refine cons (opv (Ev.assign (.c (v := I 0) rfl)) ?_)
      refine cons (opv (Ev.assign (.c (v := I 161) rfl)) ?_)
      refine nil ?_
      refine pN ?_
      refine ret ?_
      refine pR ?_
      refine done rfl (.cell rfl (fun w I => run_loadVar_pts ty29 (ptsVar (by repeat first | exact mH | apply mT | apply mA) (Lens.id _) w I)) (.tmp rfl (.tmp rfl .nil))) (fun w I => ?_)
      exact retR_bad (by unfold readE; rw [if_neg h0, if_pos h1]) (by decide) w I
    · try simp only [Bool.and_eq_true, Bool.or_eq_true, Bool.or_eq_false_iff, Bool.and_eq_false_iff, Bool.not_eq_true', Bool.not_eq_false', decide_eq_true_eq, decide_eq_false_iff_not, Decidable.not_not] at h1
      have h1 : ¬ ((frontB b).2.1 < frontN (frontB b).1 ∨ 2048 < (frontB b).2.1) := fun k => k.elim h1.1 h1.2
      refine skip ?_
      refine pN ?_
      refine seq ?_
      refine seq ?_
      refine region ?_
      refine cons (opv (Ev.move (.t rfl)) ?_)
      refine cons (opv (Ev.len Try.underlying27 (.t rfl) (by first | exact isSl_own (by repeat first | exact mH | apply mT | apply mA) | exact fun w I => IsSl.keep0 (by assumption) I.keeps)) ?_)
      refine cons (opv (Ev.move (.t rfl)) ?_)
      refine cons (opv (Ev.lss_i (.t rfl) (.t rfl)) ?_)
      refine nil ?_
      refine pN ?_
      first | refine condD rfl (fun h2 => ?_) (fun h2 => ?_) | refine cond rfl (fun h2 => ?_) (fun h2 => ?_)
      · try simp only [Bool.and_eq_true, Bool.or_eq_true, Bool.or_eq_false_iff, Bool.and_eq_false_iff, Bool.not_eq_true', Bool.not_eq_false', decide_eq_true_eq, decide_eq_false_iff_not, Decidable.not_not] at h2
        have h2 : ((b.length : Int) < (frontB b).2.1) := h2
        refine seq ?_
        refine region ?_
        refine cons (opv (Ev.buildS (fs := _) (places := [(0, 17), (17, 17), (34, 1), (35, 1), (36, 1), (37, 1), (38, 1), (39, 1), (40, 1), (41, 1), (42, 1)]) z29 rfl Try.underlying29 (by kernel_rfl) .nil Fills.nil) ?_)
        refine cons (storeV ty29 (Lens.id _) (.t rfl) (.t rfl) (by repeat first | exact Upd.head | apply Upd.tail | apply Upd.right) ?_)
        refine cons (opv (Ev.assign (.c (v := I 0) rfl)) ?_)
        refine cons (opv (Ev.assign (.c (v := I 160) rfl)) ?_)
        refine nil ?_
        refine pN ?_
        refine ret ?_
        refine pR ?_
        refine done rfl (.cell rfl (fun w I => run_loadVar_pts ty29 (ptsVar (by repeat first | exact mH | apply mT | apply mA) (Lens.id _) w I)) (.tmp rfl (.tmp rfl .nil))) (fun w I => ?_)
        exact retR_bad (by unfold readE; rw [if_neg h0, if_neg h1, if_pos h2]) (by decide) w I
      · try simp only [Bool.and_eq_true, Bool.or_eq_true, Bool.or_eq_false_iff, Bool.and_eq_false_iff, Bool.not_eq_true', Bool.not_eq_false', decide_eq_true_eq, decide_eq_false_iff_not, Decidable.not_not] at h2
        have h2 : ¬ ((b.length : Int) < (frontB b).2.1) := h2
        refine skip ?_
        refine pN ?_
        refine seq ?_
        refine seq ?_
        refine draw' (by kernel_rfl) ?_
        refine take 0 rfl (by kernel_rfl) (by kernel_rfl) (by kernel_rfl) (by repeat first | exact sR | exact sN | apply sC | apply sS | apply sA) (Ev.fieldAddr (o := 0) (.t rfl) (by kernel_rfl)) ?_
        refine take 1 rfl (by kernel_rfl) (by kernel_rfl) (by kernel_rfl) (by repeat first | exact sR | exact sN | apply sC | apply sS | apply sA) (Ev.fieldAddr (o := 0) (.t rfl) (by kernel_rfl)) ?_
        refine take 2 rfl (by kernel_rfl) (by kernel_rfl) (by kernel_rfl) (by repeat first | exact sR | exact sN | apply sC | apply sS | apply sA) (Ev.to (v' := .bool (frontB b).1.src.v6) (Ev.load ty4 (.t rfl) (ptsVar (by repeat first | exact mH | apply mT | apply mA) (Lens.comp SHeader.l_src SAddr.l_v6))) (rfl)) ?_
        refine take 3 rfl (by kernel_rfl) (by kernel_rfl) (by kernel_rfl) (by repeat first | exact sR | exact sN | apply sC | apply sS | apply sA) (Ev.not (.t rfl)) ?_
        refine take 4 rfl (by kernel_rfl) (by kernel_rfl) (by kernel_rfl) (by repeat first | exact sR | exact sN | apply sC | apply sS | apply sA) (Ev.move (.t rfl)) ?_
        refine takeg 5 rfl (by kernel_rfl) (by kernel_rfl) (by kernel_rfl) (by repeat first | exact sR | exact sN | apply sC | apply sS | apply sA) rfl rfl (Ev.move (.t rfl)) ?_
        refine takeg 7 rfl (by kernel_rfl) (by kernel_rfl) (by kernel_rfl) (by repeat first | exact sR | exact sN | apply sC | apply sS | apply sA) rfl rfl (Ev.to (v' := eHeader.val (frontB b).1) (Ev.load ty29 (.t rfl) (ptsVar (by repeat first | exact mH | apply mT | apply mA) (Lens.id _))) (rfl)) ?_
        refine takeg 8 rfl (by kernel_rfl) (by kernel_rfl) (by kernel_rfl) (by repeat first | exact sR | exact sN | apply sC | apply sS | apply sA) rfl rfl (Ev.move (.t rfl)) ?_
        refine all [6] (by kernel_rfl) (by decide) (.cons rfl ?_ .nil)
        refine (callg rfl rfl en64 (.cons (.g rfl id) (.cons (.c (v := I 10) rfl) (.cons (.c (v := I 2) rfl) .nil))) (fun hg w I => rnumber_ok _ _ _ _ w (hb.keep0 I.keeps) (by omega)) ?_)
        refine heldN_of (by repeat first | exact sR | exact sN | apply sC | apply sS | apply sA) ?_
        refine all [9] (by kernel_rfl) (by decide) (.cons rfl ?_ .nil)
        refine (callgo rfl rfl en46 (.cons (.g rfl id) (.cons (.g rfl id) (.cons (.c (v := U16 0) rfl) .nil))) (fun hg w I => rfour_ok _ _ _ w) (fun v3 => ?_))
        refine heldN_of (by repeat first | exact sR | exact sN | apply sC | apply sS | apply sA) ?_
        refine all [10] (by kernel_rfl) (by decide) (.cons rfl ?_ .nil)
        refine (callg rfl rfl en47 (.cons (.g rfl id) .nil) (fun hg w I => rsum_ok _ _ w (isSl_gd (by repeat first | exact mH | apply mT | apply mA) hg w I)) ?_)
        refine heldN_of (by repeat first | exact sR | exact sN | apply sC | apply sS | apply sA) ?_
        refine takeg 11 rfl (by kernel_rfl) (by kernel_rfl) (by kernel_rfl) (by repeat first | exact sR | exact sN | apply sC | apply sS | apply sA) rfl rfl (Ev.conv_u16_i Try.underlying3 Try.underlying25 (.g rfl id)) ?_
        refine takeg 12 rfl (by kernel_rfl) (by kernel_rfl) (by kernel_rfl) (by repeat first | exact sR | exact sN | apply sC | apply sS | apply sA) rfl rfl (Ev.neq_i (.g rfl id) (.g rfl id)) ?_
        refine take 13 rfl (by kernel_rfl) (by kernel_rfl) (by kernel_rfl) (by repeat first | exact sR | exact sN | apply sC | apply sS | apply sA) (Ev.pickA (.t rfl) (fun {_} h => by cases h; rfl) ⟨_, rfl⟩ (by intro h1 h; first | (rw [h] <;> rfl) | (rw [h1, h] <;> rfl) | (rw [h, h1] <;> rfl) | simp_all) (.c (v := .bool false) rfl)) ?_
        refine over (by kernel_rfl) ?_
        refine pN ?_
        first | refine condD rfl (fun h3 => ?_) (fun h3 => ?_) | refine cond rfl (fun h3 => ?_) (fun h3 => ?_)
        · try simp only [Bool.and_eq_true, Bool.or_eq_true, Bool.or_eq_false_iff, Bool.and_eq_false_iff, Bool.not_eq_true', Bool.not_eq_false', decide_eq_true_eq, decide_eq_false_iff_not, Decidable.not_not] at h3
          have h3 : ((frontB b).1.src.v6 = false ∧ headB (frontB b).1 ((frontB b).2.1 - frontN (frontB b).1) ≠ b.take (frontN (frontB b).1).toNat) := ⟨by simpa using h3.1, fun k => h3.2 ((front_sum b (Decidable.not_not.1 h0) (by simpa using h3.1)).1 k)⟩
          refine seq ?_
          refine region ?_
          refine cons (opv (Ev.buildS (fs := _) (places := [(0, 17), (17, 17), (34, 1), (35, 1), (36, 1), (37, 1), (38, 1), (39, 1), (40, 1), (41, 1), (42, 1)]) z29 rfl Try.underlying29 (by kernel_rfl) .nil Fills.nil) ?_)
          refine cons (storeV ty29 (Lens.id _) (.t rfl) (.t rfl) (by repeat first | exact Upd.head | apply Upd.tail | apply Upd.right) ?_)
          refine cons (opv (Ev.assign (.c (v := I 0) rfl)) ?_)
          refine cons (opv (Ev.assign (.c (v := I 162) rfl)) ?_)
          refine nil ?_
          refine pN ?_
          refine ret ?_
          refine pR ?_
          refine done rfl (.cell rfl (fun w I => run_loadVar_pts ty29 (ptsVar (by repeat first | exact mH | apply mT | apply mA) (Lens.id _) w I)) (.tmp rfl (.tmp rfl .nil))) (fun w I => ?_)
          exact retR_bad (by unfold readE; rw [if_neg h0, if_neg h1, if_neg h2, if_pos h3]) (by decide) w I
        · try simp only [Bool.and_eq_true, Bool.or_eq_true, Bool.or_eq_false_iff, Bool.and_eq_false_iff, Bool.not_eq_true', Bool.not_eq_false', decide_eq_true_eq, decide_eq_false_iff_not, Decidable.not_not] at h3
          have h3 : ¬ ((frontB b).1.src.v6 = false ∧ headB (frontB b).1 ((frontB b).2.1 - frontN (frontB b).1) ≠ b.take (frontN (frontB b).1).toNat) := by
            rintro ⟨k1, k2⟩
            rcases h3 with k | k
            · rw [k1] at k
              cases k
            · exact k2 ((front_sum b (Decidable.not_not.1 h0) k1).2 k)
          have e3 : readE b = midE (frontB b).1 (restOf b) := by unfold readE; rw [if_neg h0, if_neg h1, if_neg h2, if_neg h3]
          have hrl : (restOf b).length = ((b.take (frontB b).2.1.toNat).drop (frontN (frontB b).1).toNat).length := rfl
          have hrl2 : ((restOf b).length : Int) = (frontB b).2.1 - frontN (frontB b).1 := by rw [hrl]; simp; omega
          have hmc := midN_cases (frontB b).1.proto
          refine skip ?_
          refine pN ?_
          refine seq ?_
          refine region ?_
          refine cons (opv (Ev.fieldAddr (o := 34) (.t rfl) (by kernel_rfl)) ?_)
          refine cons (opv (Ev.to (v' := U8 (frontB b).1.proto) (Ev.load ty5 (.t rfl) (ptsVar (by repeat first | exact mH | apply mT | apply mA) SHeader.l_proto)) (rfl)) ?_)
          refine cons (callv en31 (.cons (.t rfl) .nil) (fun w I => rmiddle_ok _ w) ?_)
          refine cons (opv (Ev.assign (.t rfl)) ?_)
          refine nil ?_
          refine pN ?_
          refine seq ?_
          refine seq ?_
          refine region ?_
          refine cons (opv (Ev.move (.t rfl)) ?_)
          refine cons (opv (Ev.move (.t rfl)) ?_)
          refine cons (opv (Ev.sub_i (.t rfl) (.t rfl) (fun _ => by omega)) ?_)
          refine cons (opv (Ev.move (.t rfl)) ?_)
          refine cons (opv (Ev.lss_i (.t rfl) (.t rfl)) ?_)
          refine nil ?_
          refine pN ?_
          first | refine condD rfl (fun h4 => ?_) (fun h4 => ?_) | refine cond rfl (fun h4 => ?_) (fun h4 => ?_)
          · try simp only [Bool.and_eq_true, Bool.or_eq_true, Bool.or_eq_false_iff, Bool.and_eq_false_iff, Bool.not_eq_true', Bool.not_eq_false', decide_eq_true_eq, decide_eq_false_iff_not, Decidable.not_not] at h4
            have h4 : ((restOf b).length : Int) < midN (frontB b).1.proto := by omega
            refine seq ?_
            refine region ?_
            refine cons (opv (Ev.buildS (fs := _) (places := [(0, 17), (17, 17), (34, 1), (35, 1), (36, 1), (37, 1), (38, 1), (39, 1), (40, 1), (41, 1), (42, 1)]) z29 rfl Try.underlying29 (by kernel_rfl) .nil Fills.nil) ?_)
            refine cons (storeV ty29 (Lens.id _) (.t rfl) (.t rfl) (by repeat first | exact Upd.head | apply Upd.tail | apply Upd.right) ?_)
            refine cons (opv (Ev.assign (.c (v := I 0) rfl)) ?_)
            refine cons (opv (Ev.assign (.c (v := I 161) rfl)) ?_)
            refine nil ?_
            refine pN ?_
            refine ret ?_
            refine pR ?_
            refine done rfl (.cell rfl (fun w I => run_loadVar_pts ty29 (ptsVar (by repeat first | exact mH | apply mT | apply mA) (Lens.id _) w I)) (.tmp rfl (.tmp rfl .nil))) (fun w I => ?_)
            exact retR_bad (by rw [e3]; unfold midE; rw [if_pos h4]) (by decide) w I
          · try simp only [Bool.and_eq_true, Bool.or_eq_true, Bool.or_eq_false_iff, Bool.and_eq_false_iff, Bool.not_eq_true', Bool.not_eq_false', decide_eq_true_eq, decide_eq_false_iff_not, Decidable.not_not] at h4
            have h4 : ¬ ((restOf b).length : Int) < midN (frontB b).1.proto := by omega
            refine skip ?_
            refine pN ?_
            refine seq ?_
            refine region ?_
            refine cons (opv (Ev.move (.t rfl)) ?_)
            refine cons (opv (Ev.move (.t rfl)) ?_)
            refine cons (opv (Ev.move (.t rfl)) ?_)
            refine cons (opv (Ev.slice Try.underlying27 ty5 (.t rfl) (.t rfl) (.t rfl) (by first | exact isSl_own (by repeat first | exact mH | apply mT | apply mA) | exact fun w I => IsSl.keep0 (by assumption) I.keeps) (fun _ => by omega)) ?_)
            refine cons (opv (Ev.assign (.t rfl)) ?_)
            refine nil ?_
            refine pN ?_
            refine seq ?_
            refine region ?_
            refine cons (opv (Ev.assign (.c (v := (Go.Value.slice none 0 0)) rfl)) ?_)
            refine takeNil u8E 5 ?_
            refine nil ?_
            refine pN ?_
            refine seq ?_
            refine region ?_
            refine cons (opv (Ev.move (.t rfl)) ?_)
            refine cons (opv (Ev.move (.t rfl)) ?_)
            refine cons (opv (Ev.move (.t rfl)) ?_)
            refine cons (opv (Ev.sliceL Try.underlying27 ty5 (.t rfl) (.t rfl) (fun w I => IsSl.sub (w := w) (by first | exact isSl_own (by repeat first | exact mH | apply mT | apply mA) w I | exact IsSl.keep0 (by assumption) I.keeps) (by omega) (by omega)) (fun _ => by omega)) ?_)
            refine cons (append (E := u8E) Try.underlying27 ty5 rfl zb5 zs5 (.t rfl) (.t rfl) (fun _ => by repeat first | exact Upd.head | apply Upd.tail | apply Upd.right) (fun w I => IsSl.sub (w := w) (IsSl.sub (w := w) (by first | exact isSl_own (by repeat first | exact mH | apply mT | apply mA) w I | exact IsSl.keep0 (by assumption) I.keeps) (by omega) (by omega)) (by omega) (by omega)) (⟨by (show _ ≤ 9223372036854775807); first | omega | (simp; done) | (simp; omega), by first | omega | (simp; done) | (simp; omega)⟩) (fun v4 => ?_))
            refine cons (opv (Ev.fieldAddr (o := 42) (.t rfl) (by kernel_rfl)) ?_)
            refine cons (storeV ty27 SHeader.l_data (.t rfl) (.t rfl) (by repeat first | exact Upd.head | apply Upd.tail | apply Upd.right) ?_)
            refine nil ?_
            refine pN ?_
            refine seq ?_
            refine seq ?_
            refine region ?_
            refine cons (opv (Ev.move (.t rfl)) ?_)
            refine cons (opv (Ev.eql_i (.t rfl) (.c (v := I 0) rfl)) ?_)
            refine nil ?_
            refine pN ?_
            first | refine condD rfl (fun h5 => ?_) (fun h5 => ?_) | refine cond rfl (fun h5 => ?_) (fun h5 => ?_)
            · try simp only [Bool.and_eq_true, Bool.or_eq_true, Bool.or_eq_false_iff, Bool.and_eq_false_iff, Bool.not_eq_true', Bool.not_eq_false', decide_eq_true_eq, decide_eq_false_iff_not, Decidable.not_not] at h5
              have h5 : midN (frontB b).1.proto = 0 := h5
              refine seq ?_
              refine region ?_
              refine cons (opv (Ev.load ty29 (.t rfl) (ptsVar (by repeat first | exact mH | apply mT | apply mA) (Lens.id _))) ?_)
              refine cons (opv (Ev.move (.t rfl)) ?_)
              refine cons (storeV ty29 (Lens.id _) (.t rfl) (.t rfl) (by repeat first | exact Upd.head | apply Upd.tail | apply Upd.right) ?_)
              refine cons (opv (Ev.assign (.t rfl)) ?_)
              refine cons (opv (Ev.assign (.c (v := I 0) rfl)) ?_)
              refine nil ?_
              refine pN ?_
              refine ret ?_
              refine pR ?_
              refine done rfl (.cell rfl (fun w I => run_loadVar_pts ty29 (ptsVar (by repeat first | exact mH | apply mT | apply mA) (Lens.id _) w I)) (.tmp rfl (.tmp rfl .nil))) (fun w I => ?_)
              have e : readE b = 0 := by rw [e3]; unfold midE; rw [if_neg h4, if_pos h5]
              exact retN v4 (fun hn => absurd e hn) (by unfold readH readN; rw [if_pos e, if_pos e, e]; unfold midH; rw [if_pos h5]; rfl) (by rw [if_pos e]; exact (by repeat first | exact List.Sublist.refl _ | exact List.nil_sublist _ | apply List.Sublist.cons_cons | apply List.Sublist.cons)) w I
            · try simp only [Bool.and_eq_true, Bool.or_eq_true, Bool.or_eq_false_iff, Bool.and_eq_false_iff, Bool.not_eq_true', Bool.not_eq_false', decide_eq_true_eq, decide_eq_false_iff_not, Decidable.not_not] at h5
              have h5 : ¬ midN (frontB b).1.proto = 0 := h5
              have e5 := midE_ref (frontB b).1 (restOf b) h4 h5
              have hat := atN_le (frontB b).1.proto h5
              have hmdl := midD_length (frontB b).1 (restOf b) h4
              have hmp := midH_proto (frontB b).1 (restOf b)
              refine skip ?_
              refine pN ?_
              refine seq ?_
              refine region ?_
              refine cons (opv (Ev.move (.t rfl)) ?_)
              refine cons (callv en64 (.cons (.t rfl) (.cons (.c (v := I 0) rfl) (.cons (.c (v := I 2) rfl) .nil))) (fun w I => rnumber_ok _ (restOf b) _ _ w (IsSl.sub (hb.keep0 I.keeps) (by omega) (by omega)) (by omega)) ?_)
              refine cons (opv (Ev.conv_i_u16 Try.underlying25 Try.underlying3 (.t rfl)) ?_)
              refine cons (opv (Ev.fieldAddr (o := 35) (.t rfl) (by kernel_rfl)) ?_)
              refine cons (storeV ty25 SHeader.l_srcPort (.t rfl) (.t rfl) (by repeat first | exact Upd.head | apply Upd.tail | apply Upd.right) ?_)
              refine nil ?_
              refine pN ?_
              refine seq ?_
              refine region ?_
              refine cons (opv (Ev.move (.t rfl)) ?_)
              refine cons (callv en64 (.cons (.t rfl) (.cons (.c (v := I 2) rfl) (.cons (.c (v := I 2) rfl) .nil))) (fun w I => rnumber_ok _ (restOf b) _ _ w (IsSl.sub (hb.keep0 I.keeps) (by omega) (by omega)) (by omega)) ?_)
              refine cons (opv (Ev.conv_i_u16 Try.underlying25 Try.underlying3 (.t rfl)) ?_)
              refine cons (opv (Ev.fieldAddr (o := 36) (.t rfl) (by kernel_rfl)) ?_)
              refine cons (storeV ty25 SHeader.l_dstPort (.t rfl) (.t rfl) (by repeat first | exact Upd.head | apply Upd.tail | apply Upd.right) ?_)
              refine nil ?_
              refine pN ?_
              refine seq ?_
              refine region ?_
              refine cons (opv (Ev.assign (.c (v := I 6) rfl)) ?_)
              refine nil ?_
              refine pN ?_
              refine cut (X := SHeader × Int) (fun x : SHeader × Int => (x.1 = (wD (midH (frontB b).1 (restOf b)) v4)) ∧ (x.2 = atN (frontB b).1.proto)) (fun x : SHeader × Int => [(2, true, .pointer (some ⟨b1, 0, none⟩)), (5, true, .pointer (some ⟨b2, 0, none⟩)), (6, true, I (frontB b).2.1), (10, true, subS 1 v (frontN (frontB b).1).toNat (frontB b).2.1.toNat), (12, true, I x.2)]) (fun x : SHeader × Int => [OwnS v4.v u8E (midD (frontB b).1 (restOf b)) 5, Var b2 eHeader x.1 29, Var b1 eHeader eHeader.zero 29]) ?_ (fun x hx => ?_)
              · refine seq ?_
                refine region ?_
                refine cons (opv (Ev.fieldAddr (o := 34) (.t rfl) (by kernel_rfl)) ?_)
                refine cons (opv (Ev.load ty5 (.t rfl) (ptsVar (by repeat first | exact mH | apply mT | apply mA) SHeader.l_proto)) ?_)
                refine cons (opv (Ev.eql_u8 (.t rfl) (.c (v := U8 6) rfl)) ?_)
                refine nil ?_
                refine pN ?_
                first | refine condD rfl (fun h6 => ?_) (fun h6 => ?_) | refine cond rfl (fun h6 => ?_) (fun h6 => ?_)
                · try simp only [Bool.and_eq_true, Bool.or_eq_true, Bool.or_eq_false_iff, Bool.and_eq_false_iff, Bool.not_eq_true', Bool.not_eq_false', decide_eq_true_eq, decide_eq_false_iff_not, Decidable.not_not] at h6
                  have h6 : (frontB b).1.proto = 6 := h6
                  have hm20 : midN (frontB b).1.proto = 20 := by rw [h6]; rfl
                  refine seq ?_
                  refine region ?_
                  refine cons (opv (Ev.assign (.c (v := I 16) rfl)) ?_)
                  refine nil ?_
                  refine pN ?_
                  refine seq ?_
                  refine region ?_
                  refine cons (opv (Ev.move (.t rfl)) ?_)
                  refine cons (callv en64 (.cons (.t rfl) (.cons (.c (v := I 4) rfl) (.cons (.c (v := I 4) rfl) .nil))) (fun w I => rnumber_ok _ (restOf b) _ _ w (IsSl.sub (hb.keep0 I.keeps) (by omega) (by omega)) (by omega)) ?_)
                  refine cons (opv (Ev.conv_i_u32 Try.underlying26 Try.underlying3 (.t rfl)) ?_)
                  refine cons (opv (Ev.fieldAddr (o := 41) (.t rfl) (by kernel_rfl)) ?_)
                  refine cons (storeV ty26 SHeader.l_seq (.t rfl) (.t rfl) (by repeat first | exact Upd.head | apply Upd.tail | apply Upd.right) ?_)
                  refine nil ?_
                  refine pN ?_
                  refine region ?_
                  refine cons (opv (Ev.move (.t rfl)) ?_)
                  refine cons (opv (Ev.indexAddr Try.underlying27 ty5 (.t rfl) (.c (v := I 13) rfl) (fun w I => IsSl.sub (w := w) (by first | exact isSl_own (by repeat first | exact mH | apply mT | apply mA) w I | exact IsSl.keep0 (by assumption) I.keeps) (by omega) (by omega)) (fun _ => by omega)) ?_)
                  refine cons (opv (Ev.loadS0 (i := 13) ty5 (.t rfl) (fun w I => IsSl.sub (w := w) (by first | exact isSl_own (by repeat first | exact mH | apply mT | apply mA) w I | exact IsSl.keep0 (by assumption) I.keeps) (by omega) (by omega)) (fun _ => by omega)) ?_)
                  refine cons (opv (Ev.fieldAddr (o := 40) (.t rfl) (by kernel_rfl)) ?_)
                  refine cons (storeV ty5 SHeader.l_flags (.t rfl) (.t rfl) (by repeat first | exact Upd.head | apply Upd.tail | apply Upd.right) ?_)
                  refine nil ?_
                  refine pN ?_
                  refine meet (X := SHeader × Int) (_, _) ⟨?_, ?_⟩ (by repeat first | exact Sub.nil | refine Sub.cons rfl ?_) (by repeat first | exact sR | exact sN | apply sC | apply sS | apply sA)
                  · try dsimp only
                    rw [n16 (restOf b) 0 (by omega), n16 (restOf b) 2 (by omega)]
                    unfold midH
                    rw [if_neg h5]
                    first
                      | (rw [if_pos h6, n32 (restOf b) 4 (by omega)]; rfl)
                      | (rw [if_neg h6]; rfl)
                  · try dsimp only
                    unfold atN
                    first
                      | exact (if_pos h6).symm
                      | exact (if_neg h6).symm
                · try simp only [Bool.and_eq_true, Bool.or_eq_true, Bool.or_eq_false_iff, Bool.and_eq_false_iff, Bool.not_eq_true', Bool.not_eq_false', decide_eq_true_eq, decide_eq_false_iff_not, Decidable.not_not] at h6
                  have h6 : ¬ (frontB b).1.proto = 6 := h6
                  refine skip ?_
                  refine pN ?_
                  refine meet (X := SHeader × Int) (_, _) ⟨?_, ?_⟩ (by repeat first | exact Sub.nil | refine Sub.cons rfl ?_) (by repeat first | exact sR | exact sN | apply sC | apply sS | apply sA)
                  · try dsimp only
                    rw [n16 (restOf b) 0 (by omega), n16 (restOf b) 2 (by omega)]
                    unfold midH
                    rw [if_neg h5]
                    first
                      | (rw [if_pos h6, n32 (restOf b) 4 (by omega)]; rfl)
                      | (rw [if_neg h6]; rfl)
                  · try dsimp only
                    unfold atN
                    first
                      | exact (if_pos h6).symm
                      | exact (if_neg h6).symm
              obtain ⟨x, a⟩ := x
              obtain ⟨hx, ha⟩ : (x = (wD (midH (frontB b).1 (restOf b)) v4)) ∧ (a = atN (frontB b).1.proto) := hx
              show Sat _ _ [(2, true, .pointer (some ⟨b1, 0, none⟩)), (5, true, .pointer (some ⟨b2, 0, none⟩)), (6, true, I (frontB b).2.1), (10, true, subS 1 v (frontN (frontB b).1).toNat (frontB b).2.1.toNat), (12, true, I a)] [OwnS v4.v u8E (midD (frontB b).1 (restOf b)) 5, Var b2 eHeader x 29, Var b1 eHeader eHeader.zero 29]
              subst hx
              subst ha
              refine seq ?_
              refine draw' (by kernel_rfl) ?_
              refine take 0 rfl (by kernel_rfl) (by kernel_rfl) (by kernel_rfl) (by repeat first | exact sR | exact sN | apply sC | apply sS | apply sA) (Ev.load ty29 (.t rfl) (ptsVar (by repeat first | exact mH | apply mT | apply mA) (Lens.id _))) ?_
              refine take 1 rfl (by kernel_rfl) (by kernel_rfl) (by kernel_rfl) (by repeat first | exact sR | exact sN | apply sC | apply sS | apply sA) (Ev.move (.t rfl)) ?_
              refine take 2 rfl (by kernel_rfl) (by kernel_rfl) (by kernel_rfl) (by repeat first | exact sR | exact sN | apply sC | apply sS | apply sA) (Ev.move (.t rfl)) ?_
              refine all [3] (by kernel_rfl) (by decide) (.cons rfl ?_ .nil)
              refine (callv en64 (.cons (.t rfl) (.cons (.t rfl) (.cons (.c (v := I 2) rfl) .nil))) (fun w I => rnumber_ok _ (restOf b) _ _ w (IsSl.sub (hb.keep0 I.keeps) (by omega) (by omega)) (by omega)) ?_)
              refine heldN_of (by repeat first | exact sR | exact sN | apply sC | apply sS | apply sA) ?_
              refine take 4 rfl (by kernel_rfl) (by kernel_rfl) (by kernel_rfl) (by repeat first | exact sR | exact sN | apply sC | apply sS | apply sA) (Ev.to (v' := U16 (midS (frontB b).1 (restOf b))) (Ev.conv_i_u16 Try.underlying25 Try.underlying3 (.t rfl)) (congrArg U16 (n16 _ _ (by omega)))) ?_
              refine all [5] (by kernel_rfl) (by decide) (.cons rfl ?_ .nil)
              refine (callo en41 (.cons (.t rfl) (.cons (.t rfl) .nil)) (fun w I => rbody_own (wD (midH (frontB b).1 (restOf b)) v4) (midD (frontB b).1 (restOf b)) (midS (frontB b).1 (restOf b)) w (isSl_own (by repeat first | exact mH | apply mT | apply mA) w I) (by omega) (by show ¬ midN (midH (frontB b).1 (restOf b)).proto = 0; rw [hmp]; exact h5)) (fun v5 => ?_))
              refine heldN_of (by repeat first | exact sR | exact sN | apply sC | apply sS | apply sA) ?_
              refine take 6 rfl (by kernel_rfl) (by kernel_rfl) (by kernel_rfl) (by repeat first | exact sR | exact sN | apply sC | apply sS | apply sA) (Ev.assign (.t rfl)) ?_
              refine over (by kernel_rfl) ?_
              refine pN ?_
              refine seq ?_
              refine seq ?_
              refine region ?_
              refine cons (opv (Ev.assign (.c (v := I 0) rfl)) ?_)
              refine nil ?_
              refine pN ?_
              refine block ?_
              have hwl : ((bodyB (midH (frontB b).1 (restOf b)) (midD (frontB b).1 (restOf b)) (midS (frontB b).1 (restOf b))).length : Int) = (restOf b).length := by rw [bodyB_length, hmp, hmdl]; omega
              refine loop (X := Int) (fun x : Int => (0 ≤ x ∧ x ≤ (restOf b).length) ∧ ((restOf b).take x.toNat = (bodyB (midH (frontB b).1 (restOf b)) (midD (frontB b).1 (restOf b)) (midS (frontB b).1 (restOf b))).take x.toNat)) (fun x : Int => [(2, true, .pointer (some ⟨b1, 0, none⟩)), (5, true, .pointer (some ⟨b2, 0, none⟩)), (6, true, I (frontB b).2.1), (10, true, subS 1 v (frontN (frontB b).1).toNat (frontB b).2.1.toNat), (12, true, I (atN (frontB b).1.proto)), (13, true, v5.v), (14, true, I x)]) (fun x : Int => [OwnS v5.v u8E (bodyB (midH (frontB b).1 (restOf b)) (midD (frontB b).1 (restOf b)) (midS (frontB b).1 (restOf b))) 5, OwnS v4.v u8E (midD (frontB b).1 (restOf b)) 5, Var b2 eHeader (wD (midH (frontB b).1 (restOf b)) v4) 29, Var b1 eHeader eHeader.zero 29]) (fun x : Int => ((restOf b).length - x).toNat) (0) ⟨?_, ?_⟩ (by repeat first | exact Sub.nil | refine Sub.cons rfl ?_) (by repeat first | exact sR | exact sN | apply sC | apply sS | apply sA) (fun x hx => ?_)
              · omega
              · rfl
              obtain ⟨i, rfl⟩ : ∃ y, y = x := ⟨x, rfl⟩
              obtain ⟨hi, ht⟩ : (0 ≤ i ∧ i ≤ (restOf b).length) ∧ ((restOf b).take i.toNat = (bodyB (midH (frontB b).1 (restOf b)) (midD (frontB b).1 (restOf b)) (midS (frontB b).1 (restOf b))).take i.toNat) := hx
              show Sat _ _ [(2, true, .pointer (some ⟨b1, 0, none⟩)), (5, true, .pointer (some ⟨b2, 0, none⟩)), (6, true, I (frontB b).2.1), (10, true, subS 1 v (frontN (frontB b).1).toNat (frontB b).2.1.toNat), (12, true, I (atN (frontB b).1.proto)), (13, true, v5.v), (14, true, I i)] [OwnS v5.v u8E (bodyB (midH (frontB b).1 (restOf b)) (midD (frontB b).1 (restOf b)) (midS (frontB b).1 (restOf b))) 5, OwnS v4.v u8E (midD (frontB b).1 (restOf b)) 5, Var b2 eHeader (wD (midH (frontB b).1 (restOf b)) v4) 29, Var b1 eHeader eHeader.zero 29]
              refine seq ?_
              refine seq ?_
              refine region ?_
              refine cons (opv (Ev.move (.t rfl)) ?_)
              refine cons (opv (Ev.move (.t rfl)) ?_)
              refine cons (opv (Ev.len Try.underlying27 (.t rfl) (fun w I => IsSl.sub (hb.keep0 I.keeps) (by omega) (by omega))) ?_)
              refine cons (opv (Ev.lss_i (.t rfl) (.t rfl)) ?_)
              refine nil ?_
              refine pN ?_
              first | refine condD rfl (fun hlt => ?_) (fun hge => ?_) | refine cond rfl (fun hlt => ?_) (fun hge => ?_)
              · try simp only [Bool.and_eq_true, Bool.or_eq_true, Bool.or_eq_false_iff, Bool.and_eq_false_iff, Bool.not_eq_true', Bool.not_eq_false', decide_eq_true_eq, decide_eq_false_iff_not, Decidable.not_not] at hlt
                refine skip ?_
                refine pN ?_
                refine seq ?_
                refine block ?_
                refine seq ?_
                refine draw' (by kernel_rfl) ?_
                refine take 0 rfl (by kernel_rfl) (by kernel_rfl) (by kernel_rfl) (by repeat first | exact sR | exact sN | apply sC | apply sS | apply sA) (Ev.move (.t rfl)) ?_
                refine take 1 rfl (by kernel_rfl) (by kernel_rfl) (by kernel_rfl) (by repeat first | exact sR | exact sN | apply sC | apply sS | apply sA) (Ev.move (.t rfl)) ?_
                refine take 2 rfl (by kernel_rfl) (by kernel_rfl) (by kernel_rfl) (by repeat first | exact sR | exact sN | apply sC | apply sS | apply sA) (Ev.indexAddr Try.underlying27 ty5 (.t rfl) (.t rfl) (fun w I => IsSl.sub (hb.keep0 I.keeps) (by omega) (by omega)) (fun _ => by omega)) ?_
                refine take 3 rfl (by kernel_rfl) (by kernel_rfl) (by kernel_rfl) (by repeat first | exact sR | exact sN | apply sC | apply sS | apply sA) (Ev.loadS0 ty5 (.t rfl) (fun w I => IsSl.sub (hb.keep0 I.keeps) (by omega) (by omega)) (fun _ => by omega)) ?_
                refine take 4 rfl (by kernel_rfl) (by kernel_rfl) (by kernel_rfl) (by repeat first | exact sR | exact sN | apply sC | apply sS | apply sA) (Ev.move (.t rfl)) ?_
                refine take 5 rfl (by kernel_rfl) (by kernel_rfl) (by kernel_rfl) (by repeat first | exact sR | exact sN | apply sC | apply sS | apply sA) (Ev.move (.t rfl)) ?_
                refine take 6 rfl (by kernel_rfl) (by kernel_rfl) (by kernel_rfl) (by repeat first | exact sR | exact sN | apply sC | apply sS | apply sA) (Ev.indexAddr Try.underlying27 ty5 (.t rfl) (.t rfl) (by first | exact isSl_own (by repeat first | exact mH | apply mT | apply mA) | exact fun w I => IsSl.keep0 (by assumption) I.keeps) (fun _ => by omega)) ?_
                refine take 7 rfl (by kernel_rfl) (by kernel_rfl) (by kernel_rfl) (by repeat first | exact sR | exact sN | apply sC | apply sS | apply sA) (Ev.loadS0 ty5 (.t rfl) (by first | exact isSl_own (by repeat first | exact mH | apply mT | apply mA) | exact fun w I => IsSl.keep0 (by assumption) I.keeps) (fun _ => by omega)) ?_
                refine take 8 rfl (by kernel_rfl) (by kernel_rfl) (by kernel_rfl) (by repeat first | exact sR | exact sN | apply sC | apply sS | apply sA) (Ev.neq_u8 (.t rfl) (.t rfl)) ?_
                refine over (by kernel_rfl) ?_
                refine pN ?_
                first | refine condD rfl (fun h8 => ?_) (fun h8 => ?_) | refine cond rfl (fun h8 => ?_) (fun h8 => ?_)
                · try simp only [Bool.and_eq_true, Bool.or_eq_true, Bool.or_eq_false_iff, Bool.and_eq_false_iff, Bool.not_eq_true', Bool.not_eq_false', decide_eq_true_eq, decide_eq_false_iff_not, Decidable.not_not] at h8
                  have hne : restOf b ≠ bodyB (midH (frontB b).1 (restOf b)) (midD (frontB b).1 (restOf b)) (midS (frontB b).1 (restOf b)) := fun k => h8 (by show (restOf b).getD i.toNat 0 = (bodyB (midH (frontB b).1 (restOf b)) (midD (frontB b).1 (restOf b)) (midS (frontB b).1 (restOf b))).getD i.toNat 0; rw [← k])
                  refine seq ?_
                  refine region ?_
                  refine cons (opv (Ev.buildS (fs := _) (places := [(0, 17), (17, 17), (34, 1), (35, 1), (36, 1), (37, 1), (38, 1), (39, 1), (40, 1), (41, 1), (42, 1)]) z29 rfl Try.underlying29 (by kernel_rfl) .nil Fills.nil) ?_)
                  refine cons (storeV ty29 (Lens.id _) (.t rfl) (.t rfl) (by repeat first | exact Upd.head | apply Upd.tail | apply Upd.right) ?_)
                  refine cons (opv (Ev.assign (.c (v := I 0) rfl)) ?_)
                  refine cons (opv (Ev.assign (.c (v := I 161) rfl)) ?_)
                  refine nil ?_
                  refine pN ?_
                  refine ret ?_
                  refine bR ?_
                  refine pR ?_
                  refine pR ?_
                  refine bR ?_
                  refine pR ?_
                  refine done rfl (.cell rfl (fun w I => run_loadVar_pts ty29 (ptsVar (by repeat first | exact mH | apply mT | apply mA) (Lens.id _) w I)) (.tmp rfl (.tmp rfl .nil))) (fun w I => ?_)
                  exact retR_bad (by rw [e3, e5, if_pos hne]) (by decide) w I
                · try simp only [Bool.and_eq_true, Bool.or_eq_true, Bool.or_eq_false_iff, Bool.and_eq_false_iff, Bool.not_eq_true', Bool.not_eq_false', decide_eq_true_eq, decide_eq_false_iff_not, Decidable.not_not] at h8
                  refine skip ?_
                  refine bN ?_
                  refine pN ?_
                  refine region ?_
                  refine cons (opv (Ev.move (.t rfl)) ?_)
                  refine cons (opv (Ev.add_i (.t rfl) (.c (v := I 1) rfl) (fun _ => by omega)) ?_)
                  refine cons (opv (Ev.assign (.t rfl)) ?_)
                  refine nil ?_
                  refine pN ?_
                  refine next (X := Int) (i + 1) ⟨?_, ?_⟩ ?_ (by repeat first | exact Sub.nil | refine Sub.cons rfl ?_) (by repeat first | exact sR | exact sN | apply sC | apply sS | apply sA)
                  · try dsimp only
                    omega
                  · try dsimp only
                    have e : (i + 1).toNat = i.toNat + 1 := by omega
                    have k3 : i.toNat < (restOf b).length := by omega
                    have k4 : i.toNat < (bodyB (midH (frontB b).1 (restOf b)) (midD (frontB b).1 (restOf b)) (midS (frontB b).1 (restOf b))).length := by omega
                    rw [e, List.take_succ_eq_append_getElem k3, List.take_succ_eq_append_getElem k4, ht]
                    congr 2
                    have h8 : (restOf b).getD i.toNat 0 = (bodyB (midH (frontB b).1 (restOf b)) (midD (frontB b).1 (restOf b)) (midS (frontB b).1 (restOf b))).getD i.toNat 0 := h8
                    simpa [List.getD, k3, k4] using h8
                  · try dsimp only
                    omega
              · try simp only [Bool.and_eq_true, Bool.or_eq_true, Bool.or_eq_false_iff, Bool.and_eq_false_iff, Bool.not_eq_true', Bool.not_eq_false', decide_eq_true_eq, decide_eq_false_iff_not, Decidable.not_not] at hge
                have heq : restOf b = bodyB (midH (frontB b).1 (restOf b)) (midD (frontB b).1 (restOf b)) (midS (frontB b).1 (restOf b)) := by
                  have e : i.toNat = (restOf b).length := by omega
                  rw [e, List.take_length, List.take_of_length_le (by omega)] at ht
                  exact ht
                refine exit ?_
                refine pX ?_
                refine pX ?_
                refine bX ?_
                refine pN ?_
                refine seq ?_
                refine seq ?_
                refine draw' (by kernel_rfl) ?_
                refine take 0 rfl (by kernel_rfl) (by kernel_rfl) (by kernel_rfl) (by repeat first | exact sR | exact sN | apply sC | apply sS | apply sA) (Ev.move (.t rfl)) ?_
                refine take 1 rfl (by kernel_rfl) (by kernel_rfl) (by kernel_rfl) (by repeat first | exact sR | exact sN | apply sC | apply sS | apply sA) (Ev.move (.t rfl)) ?_
                refine take 3 rfl (by kernel_rfl) (by kernel_rfl) (by kernel_rfl) (by repeat first | exact sR | exact sN | apply sC | apply sS | apply sA) (Ev.load ty29 (.t rfl) (ptsVar (by repeat first | exact mH | apply mT | apply mA) (Lens.id _))) ?_
                refine all [2] (by kernel_rfl) (by decide) (.cons rfl ?_ .nil)
                refine (callv en64 (.cons (.t rfl) (.cons (.t rfl) (.cons (.c (v := I 2) rfl) .nil))) (fun w I => rnumber_ok _ (restOf b) _ _ w (IsSl.sub (hb.keep0 I.keeps) (by omega) (by omega)) (by omega)) ?_)
                refine heldN_of (by repeat first | exact sR | exact sN | apply sC | apply sS | apply sA) ?_
                refine all [4] (by kernel_rfl) (by decide) (.cons rfl ?_ .nil)
                refine (callv en42 (.cons (.t rfl) .nil) (fun w I => rSum_ok (wD (midH (frontB b).1 (restOf b)) v4) (midD (frontB b).1 (restOf b)) w (isSl_own (by repeat first | exact mH | apply mT | apply mA) w I) (by omega)) ?_)
                refine heldN_of (by repeat first | exact sR | exact sN | apply sC | apply sS | apply sA) ?_
                refine take 5 rfl (by kernel_rfl) (by kernel_rfl) (by kernel_rfl) (by repeat first | exact sR | exact sN | apply sC | apply sS | apply sA) (Ev.conv_u16_i Try.underlying3 Try.underlying25 (.t rfl)) ?_
                refine take 6 rfl (by kernel_rfl) (by kernel_rfl) (by kernel_rfl) (by repeat first | exact sR | exact sN | apply sC | apply sS | apply sA) (Ev.neq_i (.t rfl) (.t rfl)) ?_
                refine over (by kernel_rfl) ?_
                refine pN ?_
                first | refine condD rfl (fun h9 => ?_) (fun h9 => ?_) | refine cond rfl (fun h9 => ?_) (fun h9 => ?_)
                · try simp only [Bool.and_eq_true, Bool.or_eq_true, Bool.or_eq_false_iff, Bool.and_eq_false_iff, Bool.not_eq_true', Bool.not_eq_false', decide_eq_true_eq, decide_eq_false_iff_not, Decidable.not_not] at h9
                  have h9 : (midS (frontB b).1 (restOf b)) ≠ sumH (midH (frontB b).1 (restOf b)) (bodyB (midH (frontB b).1 (restOf b)) (midD (frontB b).1 (restOf b)) 0) := fun k => h9 ((two_eq (restOf b) (atN (frontB b).1.proto) (by omega)).symm.trans (congrArg (fun z : UInt16 => (z.toNat : Int)) k))
                  refine seq ?_
                  refine region ?_
                  refine cons (opv (Ev.buildS (fs := _) (places := [(0, 17), (17, 17), (34, 1), (35, 1), (36, 1), (37, 1), (38, 1), (39, 1), (40, 1), (41, 1), (42, 1)]) z29 rfl Try.underlying29 (by kernel_rfl) .nil Fills.nil) ?_)
                  refine cons (storeV ty29 (Lens.id _) (.t rfl) (.t rfl) (by repeat first | exact Upd.head | apply Upd.tail | apply Upd.right) ?_)
                  refine cons (opv (Ev.assign (.c (v := I 0) rfl)) ?_)
                  refine cons (opv (Ev.assign (.c (v := I 162) rfl)) ?_)
                  refine nil ?_
                  refine pN ?_
                  refine ret ?_
                  refine pR ?_
                  refine done rfl (.cell rfl (fun w I => run_loadVar_pts ty29 (ptsVar (by repeat first | exact mH | apply mT | apply mA) (Lens.id _) w I)) (.tmp rfl (.tmp rfl .nil))) (fun w I => ?_)
                  exact retR_bad (by rw [e3, e5, if_neg (fun k => k heq), if_pos h9]) (by decide) w I
                · try simp only [Bool.and_eq_true, Bool.or_eq_true, Bool.or_eq_false_iff, Bool.and_eq_false_iff, Bool.not_eq_true', Bool.not_eq_false', decide_eq_true_eq, decide_eq_false_iff_not, Decidable.not_not] at h9
                  have h9 : ¬ (midS (frontB b).1 (restOf b)) ≠ sumH (midH (frontB b).1 (restOf b)) (bodyB (midH (frontB b).1 (restOf b)) (midD (frontB b).1 (restOf b)) 0) := fun k => k (by apply UInt16.toNat_inj.1; have k2 := (two_eq (restOf b) (atN (frontB b).1.proto) (by omega)).trans h9; exact Int.ofNat_inj.1 k2)
                  refine skip ?_
                  refine pN ?_
                  refine seq ?_
                  refine region ?_
                  refine cons (opv (Ev.load ty29 (.t rfl) (ptsVar (by repeat first | exact mH | apply mT | apply mA) (Lens.id _))) ?_)
                  refine cons (opv (Ev.move (.t rfl)) ?_)
                  refine cons (storeV ty29 (Lens.id _) (.t rfl) (.t rfl) (by repeat first | exact Upd.head | apply Upd.tail | apply Upd.right) ?_)
                  refine cons (opv (Ev.assign (.t rfl)) ?_)
                  refine cons (opv (Ev.assign (.c (v := I 0) rfl)) ?_)
                  refine nil ?_
                  refine pN ?_
                  refine ret ?_
                  refine done rfl (.cell rfl (fun w I => run_loadVar_pts ty29 (ptsVar (by repeat first | exact mH | apply mT | apply mA) (Lens.id _) w I)) (.tmp rfl (.tmp rfl .nil))) (fun w I => ?_)
                  have e : readE b = 0 := by rw [e3, e5, if_neg (fun k => k heq), if_neg h9]
                  exact retN v4 (fun hn => absurd e hn) (by unfold readH readN; rw [if_pos e, if_pos e, e]; rfl) (by rw [if_pos e]; repeat first | exact List.Sublist.refl _ | exact List.nil_sublist _ | apply List.Sublist.cons_cons | apply List.Sublist.cons) w I

theorem checkA_copy (xs : List UInt8) (h : xs.length = 4) : checkA ⟨false, cpyV (Vector.replicate 16 0) xs 0⟩ = 0 := by
  rw [checkA_iff]
  intro _ i h4 hi
  have : ¬ i < xs.length := by omega
  simp [cpyV, this]
theorem cut4_length (b : List UInt8) (p q : Nat) (h : p ≤ q) (hq : q ≤ b.length) : (cut4 b p q).length = q - p := by unfold cut4; simp; omega
theorem checkA_six (v : Vector UInt8 16) : checkA ⟨true, v⟩ = 0 := by
  rw [checkA_iff]
  intro h
  cases h
/-- What is read may be. -/
theorem read_check (b : List UInt8) (he : readE b = 0) : checkH (readH b) (readD b).length = 0 := by
  have h0 : (frontB b).2.2 = 0 := by
    unfold readE at he
    split at he
    · exact absurd he (by assumption)
    · exact Decidable.not_not.1 (by assumption)
  have h1 : ¬ ((frontB b).2.1 < frontN (frontB b).1 ∨ 2048 < (frontB b).2.1) := fun h => by
    unfold readE at he
    rw [if_neg (fun k => k h0), if_pos h] at he
    exact absurd he (by decide)
  have h2 : ¬ (b.length : Int) < (frontB b).2.1 := fun h => by
    unfold readE at he
    rw [if_neg (fun k => k h0), if_neg h1, if_pos h] at he
    exact absurd he (by decide)
  have hm : midE (frontB b).1 (restOf b) = 0 := by
    unfold readE at he
    rw [if_neg (fun k => k h0), if_neg h1, if_neg h2] at he
    split at he
    · exact absurd he (by decide)
    · exact he
  have hl := midE_len _ _ hm
  have hfc := frontN_cases (frontB b).1
  have hrl : ((restOf b).length : Int) = (frontB b).2.1 - frontN (frontB b).1 := by unfold restOf; simp; omega
  have hd := midD_length (frontB b).1 (restOf b) hl
  have hH : readH b = midH (frontB b).1 (restOf b) := by unfold readH; rw [if_pos he]
  rw [hH]
  have hsrc : (midH (frontB b).1 (restOf b)).src = (frontB b).1.src := by unfold midH; split <;> (try split) <;> rfl
  have hdst : (midH (frontB b).1 (restOf b)).dst = (frontB b).1.dst := by unfold midH; split <;> (try split) <;> rfl
  have hid : (midH (frontB b).1 (restOf b)).id = (frontB b).1.id := by unfold midH; split <;> (try split) <;> rfl
  have hpr := midH_proto (frontB b).1 (restOf b)
  have hz : (frontB b).1.srcPort = 0 ∧ (frontB b).1.dstPort = 0 ∧ (frontB b).1.flags = 0 ∧ (frontB b).1.seq = 0 := by
    rcases frontB_cases b h0 with ⟨e, _⟩ | ⟨e, _⟩ <;> rw [e] <;> exact ⟨rfl, rfl, rfl, rfl⟩
  have hA : ¬ (checkA (frontB b).1.src ≠ 0 ∨ checkA (frontB b).1.dst ≠ 0 ∨ (frontB b).1.src.v6 ≠ (frontB b).1.dst.v6 ∨ (bif (frontB b).1.src.v6 then 1048575 else 65535) < (frontB b).1.id) := by
    rcases frontB_cases b h0 with ⟨e, hl4, _⟩ | ⟨e, hl2, _, _⟩
    · rw [e]
      rintro (k | k | k | k)
      · exact k (checkA_six _)
      · exact k (checkA_six _)
      · exact k rfl
      · have k2 : (1048575 : UInt32) < (takeB b 0 4).1.toUInt32 &&& 1048575 := k
        rw [UInt32.lt_iff_toNat_lt, UInt32.toNat_and] at k2
        have := Nat.and_le_right (n := (takeB b 0 4).1.toUInt32.toNat) (m := (1048575 : UInt32).toNat)
        omega
    · rw [e]
      rintro (k | k | k | k)
      · exact k (checkA_copy _ (cut4_length b 12 16 (by omega) (by omega)))
      · exact k (checkA_copy _ (cut4_length b 16 20 (by omega) (by omega)))
      · exact k rfl
      · have k2 : (65535 : UInt32) < (takeB b 4 2).1.toUInt16.toUInt32 := k
        rw [UInt32.lt_iff_toNat_lt] at k2
        have := (takeB b 4 2).1.toUInt16.toNat_lt
        have e2 : (65535 : UInt32).toNat = 65535 := rfl
        rw [e2, UInt16.toNat_toUInt32] at k2
        omega
  unfold checkH
  rw [hsrc, hdst, hid, hpr, if_neg hA]
  have hB : ¬ (midN (frontB b).1.proto = 0 ∧ ((midH (frontB b).1 (restOf b)).srcPort ≠ 0 ∨ (midH (frontB b).1 (restOf b)).dstPort ≠ 0) ∨ (frontB b).1.proto ≠ 6 ∧ ((midH (frontB b).1 (restOf b)).flags ≠ 0 ∨ (midH (frontB b).1 (restOf b)).seq ≠ 0)) := by
    unfold midH
    rintro (⟨k1, k2⟩ | ⟨k1, k2⟩)
    · rw [if_pos k1] at k2
      exact k2.elim (fun k => k hz.1) (fun k => k hz.2.1)
    · split at k2
      · exact k2.elim (fun k => k hz.2.2.1) (fun k => k hz.2.2.2)
      · exact k2.elim (fun k => k hz.2.2.1) (fun k => k hz.2.2.2)
  rw [if_neg hB, if_neg]
  have hf : frontN (midH (frontB b).1 (restOf b)) = frontN (frontB b).1 := by unfold frontN; rw [hsrc]
  rw [hf]
  unfold readD
  omega

theorem en51 : Enters Try.prog 51 := Enters.mk' (by kernel_rfl)

theorem en17 : Enters Try.prog 17 := Enters.mk' (by kernel_rfl)

theorem rolder_ok (v : Value) (b : List UInt8) (w : World) (hb : IsSl u8E w v b) : Calls Try.prog 52 #[v] w (RetY w b) := by
  refine enter0 25 Try.func52 rfl rfl (Nat.le_of_ble_eq_true rfl) ?_
  refine seq ?_
  refine region ?_
  refine cons (opv (Ev.assign (.c (v := (Go.Value.slice none 0 0)) rfl)) ?_)
  refine cons (opv (Ev.assign (.c (v := I 0) rfl)) ?_)
  refine nil ?_
  refine pN ?_
  refine seq ?_
  refine region ?_
  refine cons (opv (Ev.move (.t rfl)) ?_)
  refine cons (calln (X := OV) (fun o : OV => readE b ≠ 0 → o = nilSl) (fun o => .tuple #[eHeader.val (wD (readH b) o), I (readN b), I (readE b)]) (fun o => if readE b = 0 then [OwnS o.v u8E (readD b) 5] else []) en51 (.cons (.t rfl) .nil) (fun w I => rread_ok _ b w (hb.keep0 I.keeps)) (fun x hx => ?_))
  refine cons (opv (Ev.move (.t rfl)) ?_)
  refine cons (opv (Ev.extract (.t rfl) rfl) ?_)
  refine cons (opv (Ev.extract (.t rfl) rfl) ?_)
  refine cons (opv (Ev.extract (.t rfl) rfl) ?_)
  refine cons (alloc z29 (fun b1 => ?_))
  refine cons (storeV ty29 (Lens.id _) (.t rfl) (.t rfl) (by repeat first | exact Upd.head | apply Upd.tail | apply Upd.right) ?_)
  refine cons (opv (Ev.assign (.t rfl)) ?_)
  refine cons (opv (Ev.assign (.t rfl)) ?_)
  refine nil ?_
  refine pN ?_
  refine seq ?_
  refine seq ?_
  refine region ?_
  refine cons (opv (Ev.move (.t rfl)) ?_)
  refine cons (opv (Ev.neq_i (.t rfl) (.c (v := I 0) rfl)) ?_)
  refine nil ?_
  refine pN ?_
  first | refine condD rfl (fun h0 => ?_) (fun h0 => ?_) | refine cond rfl (fun h0 => ?_) (fun h0 => ?_)
  · try simp only [Bool.and_eq_true, Bool.or_eq_true, Bool.or_eq_false_iff, Bool.and_eq_false_iff, Bool.not_eq_true', Bool.not_eq_false', decide_eq_true_eq, decide_eq_false_iff_not, Decidable.not_not] at h0
    have h0 : readE b ≠ 0 := h0
    refine seq ?_
    refine region ?_
    refine cons (opv (Ev.move (.t rfl)) ?_)
    refine cons (opv (Ev.assign (.c (v := (Go.Value.slice none 0 0)) rfl)) ?_)
    refine cons (opv (Ev.assign (.t rfl)) ?_)
    refine nil ?_
    refine pN ?_
    refine ret ?_
    refine pR ?_
    refine done rfl (.tmp rfl (.tmp rfl .nil)) (fun w I => ?_)
    exact retY_bad (by unfold olderE; rw [if_pos h0]) h0 w I
  · try simp only [Bool.and_eq_true, Bool.or_eq_true, Bool.or_eq_false_iff, Bool.and_eq_false_iff, Bool.not_eq_true', Bool.not_eq_false', decide_eq_true_eq, decide_eq_false_iff_not, Decidable.not_not] at h0
    have h0 : readE b = 0 := by simpa using h0
    rw [if_pos h0]
    refine skip ?_
    refine pN ?_
    refine seq ?_
    refine seq ?_
    refine region ?_
    refine cons (opv (Ev.fieldAddr (o := 37) (.t rfl) (by kernel_rfl)) ?_)
    refine cons (opv (Ev.load ty5 (.t rfl) (ptsVar (by repeat first | exact mH | apply mT | apply mA) SHeader.l_tTL)) ?_)
    refine cons (opv (Ev.eql_u8 (.t rfl) (.c (v := U8 0) rfl)) ?_)
    refine nil ?_
    refine pN ?_
    first | refine condD rfl (fun h1 => ?_) (fun h1 => ?_) | refine cond rfl (fun h1 => ?_) (fun h1 => ?_)
    · try simp only [Bool.and_eq_true, Bool.or_eq_true, Bool.or_eq_false_iff, Bool.and_eq_false_iff, Bool.not_eq_true', Bool.not_eq_false', decide_eq_true_eq, decide_eq_false_iff_not, Decidable.not_not] at h1
      have h1 : (readH b).tTL = 0 := h1
      refine seq ?_
      refine region ?_
      refine cons (opv (Ev.assign (.c (v := (Go.Value.slice none 0 0)) rfl)) ?_)
      refine cons (opv (Ev.assign (.c (v := I 3) rfl)) ?_)
      refine nil ?_
      refine pN ?_
      refine ret ?_
      refine pR ?_
      refine done rfl (.tmp rfl (.tmp rfl .nil)) (fun w I => ?_)
      exact retY_bad (by unfold olderE; rw [if_neg (fun k => k h0), if_pos h1]) (by decide) w I
    · try simp only [Bool.and_eq_true, Bool.or_eq_true, Bool.or_eq_false_iff, Bool.and_eq_false_iff, Bool.not_eq_true', Bool.not_eq_false', decide_eq_true_eq, decide_eq_false_iff_not, Decidable.not_not] at h1
      have h1 : ¬ (readH b).tTL = 0 := h1
      have e : olderE b = 0 := by unfold olderE; rw [if_neg (fun k => k h0), if_neg h1]; exact read_check b h0
      refine skip ?_
      refine pN ?_
      refine seq ?_
      refine region ?_
      refine cons (opv (Ev.fieldAddr (o := 37) (.t rfl) (by kernel_rfl)) ?_)
      refine cons (opv (Ev.load ty5 (.t rfl) (ptsVar (by repeat first | exact mH | apply mT | apply mA) SHeader.l_tTL)) ?_)
      refine cons (opv (Ev.sub_u8 (.t rfl) (.c (v := U8 1) rfl)) ?_)
      refine cons (opv (Ev.fieldAddr (o := 37) (.t rfl) (by kernel_rfl)) ?_)
      refine cons (storeV ty5 SHeader.l_tTL (.t rfl) (.t rfl) (by repeat first | exact Upd.head | apply Upd.tail | apply Upd.right) ?_)
      refine nil ?_
      refine pN ?_
      refine seq ?_
      refine region ?_
      refine cons (opv (Ev.load ty29 (.t rfl) (ptsVar (by repeat first | exact mH | apply mT | apply mA) (Lens.id _))) ?_)
      refine cons (callo en17 (.cons (.t rfl) .nil) (fun w I => rmake_ok (wD (oldH (readH b)) x) (readD b) w (isSl_own (by repeat first | exact mH | apply mT | apply mA) w I) (read_check b h0)) (fun v2 => ?_))
      refine cons (opv (Ev.assign (.t rfl)) ?_)
      refine cons (opv (Ev.assign (.c (v := I 0) rfl)) ?_)
      refine nil ?_
      refine pN ?_
      refine ret ?_
      refine done rfl (.tmp rfl (.tmp rfl .nil)) (fun w I => ?_)
      exact retN v2 (fun hn => absurd e hn) (by rw [e]; rfl) (by rw [if_pos e]; exact List.cons_sublist_cons.2 (List.nil_sublist _)) w I
end Go.Proofs.Ytegcihhhighipaa
