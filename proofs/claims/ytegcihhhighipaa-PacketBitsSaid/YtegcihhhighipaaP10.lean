/- packet -/
import Derived.Test.YtegcihhhighipaaP9
set_option linter.unusedVariables false
set_option linter.unusedSimpArgs false
namespace Go.Proofs.Ytegcihhhighipaa
open Go Go.Gx

/-- A header with other Data. -/
def wD (h : SHeader) (o : OV) : SHeader := { h with data := o }
/-- Data behind the middle. -/
def midD (h : SHeader) (b : List UInt8) : List UInt8 := (b.take b.length).drop (midN h.proto).toNat
/-- A header with what the middle says. -/
def midH (h : SHeader) (b : List UInt8) : SHeader :=
  if midN h.proto = 0 then h
  else if h.proto = 6 then { h with srcPort := (takeB b 0 2).1.toUInt16, dstPort := (takeB b 2 2).1.toUInt16, seq := (takeB b 4 4).1.toUInt32, flags := b.getD 13 0 }
  else { h with srcPort := (takeB b 0 2).1.toUInt16, dstPort := (takeB b 2 2).1.toUInt16 }
/-- The sum that is given. -/
def midS (h : SHeader) (b : List UInt8) : UInt16 := (takeB b (atN h.proto) 2).1.toUInt16
/-- What is wrong with it. -/
def midE (h : SHeader) (b : List UInt8) : Int :=
  if (b.length : Int) < midN h.proto then 161
  else if midN h.proto = 0 then 0
  else if b ≠ layB (bodyB (midH h b) (midD h b) 0) (atN h.proto) (midS h b) then 161
  else if midS h b ≠ sumH (midH h b) (bodyB (midH h b) (midD h b) 0) then 162 else 0
/-- What middled hands back. -/
def RetD (w : World) (h : SHeader) (b : List UInt8) : Ending → World → Prop :=
  RetN w (fun o : OV => (b.length : Int) < midN h.proto → o = h.data) (fun o => .tuple #[eHeader.val (wD (if (b.length : Int) < midN h.proto then h else midH h b) o), I (midE h b)]) (fun o => if (b.length : Int) < midN h.proto then [] else [OwnS o.v u8E (midD h b) 5])
theorem midH_proto (h : SHeader) (b : List UInt8) : (midH h b).proto = h.proto := by unfold midH; split <;> (try split) <;> rfl
theorem midD_length (h : SHeader) (b : List UInt8) (hb : ¬ (b.length : Int) < midN h.proto) : ((midD h b).length : Int) = b.length - midN h.proto := by
  have := midN_cases h.proto
  unfold midD
  simp
  omega
theorem bodyB_data (h : SHeader) (o : OV) (d : List UInt8) (s : UInt16) : bodyB (wD h o) d s = bodyB h d s := rfl
theorem sumH_data (h : SHeader) (o : OV) (b : List UInt8) : sumH (wD h o) b = sumH h b := rfl

theorem middled_ok (h : SHeader) (v : Value) (b : List UInt8) (w : World) (hb : IsSl u8E w v b) (hl : b.length ≤ 4096) : Calls Try.prog 50 #[eHeader.val h, v] w (RetD w h b) := by
  have hmc := midN_cases h.proto
  have hg : midN (SHeader.l_proto.get h) = midN h.proto := rfl
  refine enter0 83 Try.func50 rfl rfl (Nat.le_of_ble_eq_true rfl) ?_
  refine seq ?_
  refine region ?_
  refine cons (box (E := eHeader) (.t rfl) (fun b1 => ?_))
  refine cons (alloc z29 (fun b2 => ?_))
  refine cons (opv (Ev.assign (.c (v := I 0) rfl)) ?_)
  refine nil ?_
  refine pN ?_
  refine seq ?_
  refine region ?_
  refine cons (opv (Ev.fieldAddr (o := 34) (.t rfl) (by kernel_rfl)) ?_)
  refine cons (opv (Ev.load ty5 (.t rfl) (ptsVar (by repeat first | exact mH | apply mT | apply mA) SHeader.l_proto)) ?_)
  refine cons (callv en34 (.cons (.t rfl) .nil) (fun w I => middle_ok _ w) ?_)
  refine cons (opv (Ev.assign (.t rfl)) ?_)
  refine nil ?_
  refine pN ?_
  refine seq ?_
  refine seq ?_
  refine region ?_
  refine cons (opv (Ev.move (.t rfl)) ?_)
  refine cons (opv (Ev.len Try.underlying27 (.t rfl) (by first | exact isSl_own (by repeat first | exact mH | apply mT | apply mA) | exact fun w I => IsSl.keep0 (by assumption) I.keeps)) ?_)
  refine cons (opv (Ev.move (.t rfl)) ?_)
  refine cons (opv (Ev.lss_i (.t rfl) (.t rfl)) ?_)
  refine nil ?_
  refine pN ?_
  first | refine condD rfl (fun h0 => ?_) (fun h0 => ?_) | refine cond rfl (fun h0 => ?_) (fun h0 => ?_)
  · try simp only [Bool.and_eq_true, Bool.or_eq_true, Bool.or_eq_false_iff, Bool.and_eq_false_iff, Bool.not_eq_true', Bool.not_eq_false', decide_eq_true_eq, decide_eq_false_iff_not, Decidable.not_not] at h0
    have h0 : (b.length : Int) < midN h.proto := h0
    refine seq ?_
    refine region ?_
    refine cons (opv (Ev.load ty29 (.t rfl) (ptsVar (by repeat first | exact mH | apply mT | apply mA) (Lens.id _))) ?_)
    refine cons (storeV ty29 (Lens.id _) (.t rfl) (.t rfl) (by repeat first | exact Upd.head | apply Upd.tail | apply Upd.right) ?_)
    refine cons (opv (Ev.assign (.c (v := I 161) rfl)) ?_)
    refine nil ?_
    refine pN ?_
    refine ret ?_
    refine pR ?_
    refine done rfl (.cell rfl (fun w I => run_loadVar_pts ty29 (ptsVar (by repeat first | exact mH | apply mT | apply mA) (Lens.id _) w I)) (.tmp rfl .nil)) (fun w I => ?_)
    exact retN h.data (fun _ => rfl) (by rw [if_pos h0]; unfold midE; rw [if_pos h0]; rfl) (by rw [if_pos h0]; exact List.nil_sublist _) w I
  · try simp only [Bool.and_eq_true, Bool.or_eq_true, Bool.or_eq_false_iff, Bool.and_eq_false_iff, Bool.not_eq_true', Bool.not_eq_false', decide_eq_true_eq, decide_eq_false_iff_not, Decidable.not_not] at h0
    have h0 : ¬ (b.length : Int) < midN h.proto := h0
    refine skip ?_
    refine pN ?_
    refine seq ?_
    refine region ?_
    refine cons (opv (Ev.move (.t rfl)) ?_)
    refine cons (opv (Ev.move (.t rfl)) ?_)
    refine cons (opv (Ev.sliceL Try.underlying27 ty5 (.t rfl) (.t rfl) (by first | exact isSl_own (by repeat first | exact mH | apply mT | apply mA) | exact fun w I => IsSl.keep0 (by assumption) I.keeps) (fun _ => by omega)) ?_)
    refine takeNil u8E 5 ?_
    refine cons (append (E := u8E) Try.underlying27 ty5 rfl zb5 zs5 (.c (v := (Go.Value.slice none 0 0)) rfl) (.t rfl) (fun _ => by repeat first | exact Upd.head | apply Upd.tail | apply Upd.right) (fun w I => IsSl.sub (w := w) (by first | exact isSl_own (by repeat first | exact mH | apply mT | apply mA) w I | exact IsSl.keep0 (by assumption) I.keeps) (by omega) (by omega)) (⟨by (show _ ≤ 9223372036854775807); first | omega | (simp; done) | (simp; omega), by first | omega | (simp; done) | (simp; omega)⟩) (fun v3 => ?_))
    refine cons (opv (Ev.fieldAddr (o := 42) (.t rfl) (by kernel_rfl)) ?_)
    refine cons (storeV ty27 SHeader.l_data (.t rfl) (.t rfl) (by repeat first | exact Upd.head | apply Upd.tail | apply Upd.right) ?_)
    refine nil ?_
    refine pN ?_
    refine seq ?_
    refine seq ?_
    refine region ?_
    refine cons (opv (Ev.move (.t rfl)) ?_)
    refine cons (opv (Ev.eql_i (.t rfl) (.c (v := I 0) rfl)) ?_)
    refine nil ?_
    refine pN ?_
    first | refine condD rfl (fun h1 => ?_) (fun h1 => ?_) | refine cond rfl (fun h1 => ?_) (fun h1 => ?_)
    · try simp only [Bool.and_eq_true, Bool.or_eq_true, Bool.or_eq_false_iff, Bool.and_eq_false_iff, Bool.not_eq_true', Bool.not_eq_false', decide_eq_true_eq, decide_eq_false_iff_not, Decidable.not_not] at h1
      have h1 : midN h.proto = 0 := h1
      refine seq ?_
      refine region ?_
      refine cons (opv (Ev.load ty29 (.t rfl) (ptsVar (by repeat first | exact mH | apply mT | apply mA) (Lens.id _))) ?_)
      refine cons (storeV ty29 (Lens.id _) (.t rfl) (.t rfl) (by repeat first | exact Upd.head | apply Upd.tail | apply Upd.right) ?_)
      refine cons (opv (Ev.assign (.c (v := I 0) rfl)) ?_)
      refine nil ?_
      refine pN ?_
      refine ret ?_
      refine pR ?_
      refine done rfl (.cell rfl (fun w I => run_loadVar_pts ty29 (ptsVar (by repeat first | exact mH | apply mT | apply mA) (Lens.id _) w I)) (.tmp rfl .nil)) (fun w I => ?_)
      exact retN v3 (fun hn => absurd hn h0) (by unfold midE; rw [if_neg h0, if_neg h0, if_pos h1]; unfold midH; rw [if_pos h1]; rfl) (by rw [if_neg h0]; exact List.cons_sublist_cons.2 (List.nil_sublist _)) w I
    · try simp only [Bool.and_eq_true, Bool.or_eq_true, Bool.or_eq_false_iff, Bool.and_eq_false_iff, Bool.not_eq_true', Bool.not_eq_false', decide_eq_true_eq, decide_eq_false_iff_not, Decidable.not_not] at h1
      have h1 : ¬ midN h.proto = 0 := h1
      refine skip ?_
      refine pN ?_
      refine seq ?_
      refine region ?_
      refine cons (opv (Ev.move (.t rfl)) ?_)
      refine cons (callv en61 (.cons (.t rfl) (.cons (.c (v := I 0) rfl) .nil)) (fun w I => take_uint16_ok _ _ _ w (by first | exact isSl_own (by repeat first | exact mH | apply mT | apply mA) w I | exact IsSl.keep0 (by assumption) I.keeps)) ?_)
      refine cons (opv (Ev.move (.t rfl)) ?_)
      refine cons (opv (Ev.extract (.t rfl) rfl) ?_)
      refine cons (opv (Ev.extract (.t rfl) rfl) ?_)
      refine cons (opv (Ev.fieldAddr (o := 35) (.t rfl) (by kernel_rfl)) ?_)
      refine cons (storeV ty25 SHeader.l_srcPort (.t rfl) (.t rfl) (by repeat first | exact Upd.head | apply Upd.tail | apply Upd.right) ?_)
      refine nil ?_
      refine pN ?_
      refine seq ?_
      refine region ?_
      refine cons (opv (Ev.move (.t rfl)) ?_)
      refine cons (callv en61 (.cons (.t rfl) (.cons (.c (v := I 2) rfl) .nil)) (fun w I => take_uint16_ok _ _ _ w (by first | exact isSl_own (by repeat first | exact mH | apply mT | apply mA) w I | exact IsSl.keep0 (by assumption) I.keeps)) ?_)
      refine cons (opv (Ev.move (.t rfl)) ?_)
      refine cons (opv (Ev.extract (.t rfl) rfl) ?_)
      refine cons (opv (Ev.extract (.t rfl) rfl) ?_)
      refine cons (opv (Ev.fieldAddr (o := 36) (.t rfl) (by kernel_rfl)) ?_)
      refine cons (storeV ty25 SHeader.l_dstPort (.t rfl) (.t rfl) (by repeat first | exact Upd.head | apply Upd.tail | apply Upd.right) ?_)
      refine nil ?_
      refine pN ?_
      refine cut (X := SHeader) (fun x : SHeader => (x = (wD (midH h b) v3))) (fun x : SHeader => [(1, true, v), (2, true, .pointer (some ⟨b1, 0, none⟩)), (4, true, .pointer (some ⟨b2, 0, none⟩)), (6, true, I (midN h.proto))]) (fun x : SHeader => [OwnS v3.v u8E (midD h b) 5, Var b2 eHeader eHeader.zero 29, Var b1 eHeader x 29]) ?_ (fun x hx => ?_)
      · refine seq ?_
        refine region ?_
        refine cons (opv (Ev.fieldAddr (o := 34) (.t rfl) (by kernel_rfl)) ?_)
        refine cons (opv (Ev.load ty5 (.t rfl) (ptsVar (by repeat first | exact mH | apply mT | apply mA) SHeader.l_proto)) ?_)
        refine cons (opv (Ev.eql_u8 (.t rfl) (.c (v := U8 6) rfl)) ?_)
        refine nil ?_
        refine pN ?_
        first | refine condD rfl (fun h2 => ?_) (fun h2 => ?_) | refine cond rfl (fun h2 => ?_) (fun h2 => ?_)
        · try simp only [Bool.and_eq_true, Bool.or_eq_true, Bool.or_eq_false_iff, Bool.and_eq_false_iff, Bool.not_eq_true', Bool.not_eq_false', decide_eq_true_eq, decide_eq_false_iff_not, Decidable.not_not] at h2
          have h2 : h.proto = 6 := h2
          have hm20 : midN h.proto = 20 := by rw [h2]; rfl
          refine seq ?_
          refine region ?_
          refine cons (opv (Ev.move (.t rfl)) ?_)
          refine cons (callv en62 (.cons (.t rfl) (.cons (.c (v := I 4) rfl) .nil)) (fun w I => take_uint32_ok _ _ _ w (by first | exact isSl_own (by repeat first | exact mH | apply mT | apply mA) w I | exact IsSl.keep0 (by assumption) I.keeps)) ?_)
          refine cons (opv (Ev.move (.t rfl)) ?_)
          refine cons (opv (Ev.extract (.t rfl) rfl) ?_)
          refine cons (opv (Ev.extract (.t rfl) rfl) ?_)
          refine cons (opv (Ev.fieldAddr (o := 41) (.t rfl) (by kernel_rfl)) ?_)
          refine cons (storeV ty26 SHeader.l_seq (.t rfl) (.t rfl) (by repeat first | exact Upd.head | apply Upd.tail | apply Upd.right) ?_)
          refine nil ?_
          refine pN ?_
          refine region ?_
          refine cons (opv (Ev.move (.t rfl)) ?_)
          refine cons (opv (Ev.indexAddr Try.underlying27 ty5 (.t rfl) (.c (v := I 13) rfl) (by first | exact isSl_own (by repeat first | exact mH | apply mT | apply mA) | exact fun w I => IsSl.keep0 (by assumption) I.keeps) (fun _ => by omega)) ?_)
          refine cons (opv (Ev.loadS0 (i := 13) ty5 (.t rfl) (by first | exact isSl_own (by repeat first | exact mH | apply mT | apply mA) | exact fun w I => IsSl.keep0 (by assumption) I.keeps) (fun _ => by omega)) ?_)
          refine cons (opv (Ev.fieldAddr (o := 40) (.t rfl) (by kernel_rfl)) ?_)
          refine cons (storeV ty5 SHeader.l_flags (.t rfl) (.t rfl) (by repeat first | exact Upd.head | apply Upd.tail | apply Upd.right) ?_)
          refine nil ?_
          refine pN ?_
          refine meet (X := SHeader) (_) ?_ (by repeat first | exact Sub.nil | refine Sub.cons rfl ?_) (by repeat first | exact sR | exact sN | apply sC | apply sS | apply sA)
          · try dsimp only
            unfold midH
            rw [if_neg h1]
            first
              | (rw [if_pos h2]; rfl)
              | (rw [if_neg h2]; rfl)
        · try simp only [Bool.and_eq_true, Bool.or_eq_true, Bool.or_eq_false_iff, Bool.and_eq_false_iff, Bool.not_eq_true', Bool.not_eq_false', decide_eq_true_eq, decide_eq_false_iff_not, Decidable.not_not] at h2
          have h2 : ¬ h.proto = 6 := h2
          refine skip ?_
          refine pN ?_
          refine meet (X := SHeader) (_) ?_ (by repeat first | exact Sub.nil | refine Sub.cons rfl ?_) (by repeat first | exact sR | exact sN | apply sC | apply sS | apply sA)
          · try dsimp only
            unfold midH
            rw [if_neg h1]
            first
              | (rw [if_pos h2]; rfl)
              | (rw [if_neg h2]; rfl)
      obtain ⟨x, rfl⟩ : ∃ y, y = x := ⟨x, rfl⟩
      have hx2 : x = (wD (midH h b) v3) := hx
      clear hx
      show Sat _ _ [(1, true, v), (2, true, .pointer (some ⟨b1, 0, none⟩)), (4, true, .pointer (some ⟨b2, 0, none⟩)), (6, true, I (midN h.proto))] [OwnS v3.v u8E (midD h b) 5, Var b2 eHeader eHeader.zero 29, Var b1 eHeader x 29]
      subst hx2
      have hmp := midH_proto h b
      have hgp : SHeader.l_proto.get (wD (midH h b) v3) = h.proto := hmp
      have hml := midD_length h b h0
      have hbl := bodyB_length (midH h b) (midD h b) 0
      rw [hmp] at hbl
      have hat := atN_le h.proto h1
      have hg2 : (bodyB (wD (midH h b) v3) (midD h b) 0).length = (bodyB (midH h b) (midD h b) 0).length := rfl
      refine seq ?_
      refine region ?_
      refine cons (opv (Ev.move (.t rfl)) ?_)
      refine cons (opv (Ev.fieldAddr (o := 34) (.t rfl) (by kernel_rfl)) ?_)
      refine cons (opv (Ev.load ty5 (.t rfl) (ptsVar (by repeat first | exact mH | apply mT | apply mA) SHeader.l_proto)) ?_)
      refine cons (callv en36 (.cons (.t rfl) .nil) (fun w I => at_ok _ w) ?_)
      refine cons (callv en61 (.cons (.t rfl) (.cons (.t rfl) .nil)) (fun w I => take_uint16_ok _ _ _ w (by first | exact isSl_own (by repeat first | exact mH | apply mT | apply mA) w I | exact IsSl.keep0 (by assumption) I.keeps)) ?_)
      refine cons (opv (Ev.move (.t rfl)) ?_)
      refine cons (opv (Ev.extract (.t rfl) rfl) ?_)
      refine cons (opv (Ev.extract (.t rfl) rfl) ?_)
      refine cons (opv (Ev.assign (.t rfl)) ?_)
      refine cons (opv (Ev.assign (.t rfl)) ?_)
      refine nil ?_
      refine pN ?_
      refine seq ?_
      refine region ?_
      refine cons (opv (Ev.load ty29 (.t rfl) (ptsVar (by repeat first | exact mH | apply mT | apply mA) (Lens.id _))) ?_)
      refine cons (callo en33 (.cons (.t rfl) .nil) (fun w I => behind_ok (wD (midH h b) v3) (midD h b) w (isSl_own (by repeat first | exact mH | apply mT | apply mA) w I) (by omega)) (fun v4 => ?_))
      refine cons (opv (Ev.assign (.t rfl)) ?_)
      refine nil ?_
      refine pN ?_
      refine seq ?_
      refine region ?_
      refine cons (opv (Ev.load ty29 (.t rfl) (ptsVar (by repeat first | exact mH | apply mT | apply mA) (Lens.id _))) ?_)
      refine cons (opv (Ev.move (.t rfl)) ?_)
      refine cons (callv en37 (.cons (.t rfl) (.cons (.t rfl) .nil)) (fun w I => sum16_ok _ _ _ w (isSl_own (by repeat first | exact mH | apply mT | apply mA) w I) (by omega)) ?_)
      refine cons (opv (Ev.assign (.t rfl)) ?_)
      refine nil ?_
      refine pN ?_
      refine seq ?_
      refine region ?_
      refine cons (opv (Ev.move (.t rfl)) ?_)
      refine cons (opv (Ev.fieldAddr (o := 34) (.t rfl) (by kernel_rfl)) ?_)
      refine cons (opv (Ev.load ty5 (.t rfl) (ptsVar (by repeat first | exact mH | apply mT | apply mA) SHeader.l_proto)) ?_)
      refine cons (callv en36 (.cons (.t rfl) .nil) (fun w I => at_ok _ w) ?_)
      refine cons (opv (Ev.move (.t rfl)) ?_)
      refine cons (callw (E := u8E) (xs := bodyB (midH h b) (midD h b) 0) (T := 5) (by repeat first | exact Upd.head | apply Upd.tail | apply Upd.right) en35 (.cons (.t rfl) (.cons (.t rfl) (.cons (.t rfl) .nil))) (fun w I => lay_ok _ (bodyB (midH h b) (midD h b) 0) _ _ w (by show 0 ≤ atN (midH h b).proto ∧ atN (midH h b).proto + 1 < _; rw [hmp]; omega) (I.own (OwnS _ u8E (bodyB (midH h b) (midD h b) 0) 5) (by repeat first | exact mH | apply mT | apply mA)).1 (fun b3 hb3 => ((I.own (OwnS _ u8E (bodyB (midH h b) (midD h b) 0) 5) (by repeat first | exact mH | apply mT | apply mA)).2 b3 hb3).2)) ?_)
      refine nil ?_
      refine pN ?_
      refine seq ?_
      refine block ?_
      refine seq ?_
      refine region ?_
      refine cons (opv (Ev.move (.t rfl)) ?_)
      refine cons (opv (Ev.move (.t rfl)) ?_)
      refine cons (callv en48 (.cons (.t rfl) (.cons (.t rfl) .nil)) (fun w I => equal_ok _ _ _ _ w (by first | exact isSl_own (by repeat first | exact mH | apply mT | apply mA) w I | exact IsSl.keep0 (by assumption) I.keeps) (by first | exact isSl_own (by repeat first | exact mH | apply mT | apply mA) w I | exact IsSl.keep0 (by assumption) I.keeps)) ?_)
      refine cons (opv (Ev.not (.t rfl)) ?_)
      refine cons (opv (Ev.assign (.t rfl)) ?_)
      refine nil ?_
      refine pN ?_
      first | refine condD rfl (fun h3 => ?_) (fun h3 => ?_) | refine cond rfl (fun h3 => ?_) (fun h3 => ?_)
      · try simp only [Bool.and_eq_true, Bool.or_eq_true, Bool.or_eq_false_iff, Bool.and_eq_false_iff, Bool.not_eq_true', Bool.not_eq_false', decide_eq_true_eq, decide_eq_false_iff_not, Decidable.not_not] at h3
        rw [hgp] at h3
        have h3 : b ≠ layB (bodyB (midH h b) (midD h b) 0) (atN h.proto) (midS h b) := h3
        refine seq ?_
        refine region ?_
        refine cons (opv (Ev.load ty29 (.t rfl) (ptsVar (by repeat first | exact mH | apply mT | apply mA) (Lens.id _))) ?_)
        refine cons (storeV ty29 (Lens.id _) (.t rfl) (.t rfl) (by repeat first | exact Upd.head | apply Upd.tail | apply Upd.right) ?_)
        refine cons (opv (Ev.assign (.c (v := I 161) rfl)) ?_)
        refine nil ?_
        refine pN ?_
        refine ret ?_
        refine bR ?_
        refine pR ?_
        refine done rfl (.cell rfl (fun w I => run_loadVar_pts ty29 (ptsVar (by repeat first | exact mH | apply mT | apply mA) (Lens.id _) w I)) (.tmp rfl .nil)) (fun w I => ?_)
        have e : midE h b = 161 := by
          unfold midE
          rw [if_neg h0, if_neg h1, if_pos h3]
        exact retN v3 (fun hn => absurd hn h0) (by rw [if_neg h0, e]; rfl) (by rw [if_neg h0]; exact List.Sublist.cons _ (List.cons_sublist_cons.2 (List.nil_sublist _))) w I
      · try simp only [Bool.and_eq_true, Bool.or_eq_true, Bool.or_eq_false_iff, Bool.and_eq_false_iff, Bool.not_eq_true', Bool.not_eq_false', decide_eq_true_eq, decide_eq_false_iff_not, Decidable.not_not] at h3
        rw [hgp] at h3
        have h3 : ¬ (b ≠ layB (bodyB (midH h b) (midD h b) 0) (atN h.proto) (midS h b)) := fun k => k h3
        refine seq ?_
        refine region ?_
        refine cons (opv (Ev.move (.t rfl)) ?_)
        refine cons (opv (Ev.move (.t rfl)) ?_)
        refine cons (opv (Ev.neq_u16 (.t rfl) (.t rfl)) ?_)
        refine cons (opv (Ev.assign (.t rfl)) ?_)
        refine nil ?_
        refine pN ?_
        first | refine condD rfl (fun h4 => ?_) (fun h4 => ?_) | refine cond rfl (fun h4 => ?_) (fun h4 => ?_)
        · try simp only [Bool.and_eq_true, Bool.or_eq_true, Bool.or_eq_false_iff, Bool.and_eq_false_iff, Bool.not_eq_true', Bool.not_eq_false', decide_eq_true_eq, decide_eq_false_iff_not, Decidable.not_not] at h4
          rw [hgp] at h4
          have h4 : midS h b ≠ sumH (midH h b) (bodyB (midH h b) (midD h b) 0) := h4
          refine seq ?_
          refine region ?_
          refine cons (opv (Ev.load ty29 (.t rfl) (ptsVar (by repeat first | exact mH | apply mT | apply mA) (Lens.id _))) ?_)
          refine cons (storeV ty29 (Lens.id _) (.t rfl) (.t rfl) (by repeat first | exact Upd.head | apply Upd.tail | apply Upd.right) ?_)
          refine cons (opv (Ev.assign (.c (v := I 162) rfl)) ?_)
          refine nil ?_
          refine pN ?_
          refine ret ?_
          refine bR ?_
          refine pR ?_
          refine done rfl (.cell rfl (fun w I => run_loadVar_pts ty29 (ptsVar (by repeat first | exact mH | apply mT | apply mA) (Lens.id _) w I)) (.tmp rfl .nil)) (fun w I => ?_)
          have e : midE h b = 162 := by
            unfold midE
            rw [if_neg h0, if_neg h1, if_neg h3, if_pos h4]
          exact retN v3 (fun hn => absurd hn h0) (by rw [if_neg h0, e]; rfl) (by rw [if_neg h0]; exact List.Sublist.cons _ (List.cons_sublist_cons.2 (List.nil_sublist _))) w I
        · try simp only [Bool.and_eq_true, Bool.or_eq_true, Bool.or_eq_false_iff, Bool.and_eq_false_iff, Bool.not_eq_true', Bool.not_eq_false', decide_eq_true_eq, decide_eq_false_iff_not, Decidable.not_not] at h4
          rw [hgp] at h4
          have h4 : ¬ (midS h b ≠ sumH (midH h b) (bodyB (midH h b) (midD h b) 0)) := fun k => k h4
          refine skip ?_
          refine bN ?_
          refine pN ?_
          refine seq ?_
          refine region ?_
          refine cons (opv (Ev.load ty29 (.t rfl) (ptsVar (by repeat first | exact mH | apply mT | apply mA) (Lens.id _))) ?_)
          refine cons (storeV ty29 (Lens.id _) (.t rfl) (.t rfl) (by repeat first | exact Upd.head | apply Upd.tail | apply Upd.right) ?_)
          refine cons (opv (Ev.assign (.c (v := I 0) rfl)) ?_)
          refine nil ?_
          refine pN ?_
          refine ret ?_
          refine done rfl (.cell rfl (fun w I => run_loadVar_pts ty29 (ptsVar (by repeat first | exact mH | apply mT | apply mA) (Lens.id _) w I)) (.tmp rfl .nil)) (fun w I => ?_)
          have e : midE h b = 0 := by
            unfold midE
            rw [if_neg h0, if_neg h1, if_neg h3, if_neg h4]
          exact retN v3 (fun hn => absurd hn h0) (by rw [if_neg h0, e]; rfl) (by rw [if_neg h0]; exact List.Sublist.cons _ (List.cons_sublist_cons.2 (List.nil_sublist _))) w I
end Go.Proofs.Ytegcihhhighipaa
