/- packet -/
import Derived.Test.YtegcihhhighipaaP21
set_option linter.unusedVariables false
set_option linter.unusedSimpArgs false
namespace Go.Proofs.Ytegcihhhighipaa
open Go Go.Gx

theorem isSl_spare {w : World} {o : OV} {d : List UInt8} (h : IsSl u8E w o.v (d ++ marks)) : IsSl u8E w (OV.sub u8E.size o 0 d.length).v d := by
  have h1 := IsSl.sub h (l := 0) (k := d.length) (Nat.zero_le _) (by simp)
  have e : ((d ++ marks).take d.length).drop 0 = d := by simp
  rw [e] at h1
  exact h1
theorem makeB_le (h : SHeader) (d : List UInt8) (hc : checkH h d.length = 0) : (makeB h d).length ≤ 2200 := by
  have h1 := checkH_len h d.length hc
  have h2 := headB_le h (restB h d).length
  have h3 := restB_length h d
  have h4 := midN_cases h.proto
  unfold makeB
  rw [List.length_append]
  omega

theorem en11 : Enters Try.prog 11 := Enters.mk' (by kernel_rfl)

theorem en12 : Enters Try.prog 12 := Enters.mk' (by kernel_rfl)

theorem en15 : Enters Try.prog 15 := Enters.mk' (by kernel_rfl)

theorem en16 : Enters Try.prog 16 := Enters.mk' (by kernel_rfl)

theorem PacketMakes_walk (h : SHeader) (d : List UInt8) (w : World) (hd : IsSl u8E w h.data.v d) (hl : d.length ≤ 140737488351232) : Calls Try.prog 3 #[eHeader.val h] w (RetV w (.bool true)) := by
  refine enter0 107 Try.func3 rfl rfl (Nat.le_of_ble_eq_true rfl) ?_
  refine seq ?_
  refine region ?_
  refine cons (box (E := eHeader) (.t rfl) (fun b1 => ?_))
  refine cons (opv (Ev.assign (.c (v := .bool false) rfl)) ?_)
  refine nil ?_
  refine pN ?_
  refine seq ?_
  refine region ?_
  refine cons (opv (Ev.load ty29 (.t rfl) (ptsVar (by repeat first | exact mH | apply mT | apply mA) (Lens.id _))) ?_)
  refine cons (alloc z29 (fun b2 => ?_))
  refine cons (storeV ty29 (Lens.id _) (.t rfl) (.t rfl) (by repeat first | exact Upd.head | apply Upd.tail | apply Upd.right) ?_)
  refine nil ?_
  refine pN ?_
  refine seq ?_
  refine region ?_
  refine cons (opv (Ev.fieldAddr (o := 42) (.t rfl) (by kernel_rfl)) ?_)
  refine cons (opv (Ev.load ty27 (.t rfl) (ptsVar (by repeat first | exact mH | apply mT | apply mA) SHeader.l_data)) ?_)
  refine cons (calln (X := OV) (fun _ => True) (fun o => (OV.sub u8E.size o 0 d.length).v) (fun o => [OwnS o.v u8E (d ++ marks) 5]) en11 (.cons (.t rfl) .nil) (fun w I => spare_ok _ _ w (hd.keep0 I.keeps) (by omega)) (fun in1 _ => ?_))
  refine cons (opv (Ev.fieldAddr (o := 42) (.t rfl) (by kernel_rfl)) ?_)
  refine cons (storeV ty27 SHeader.l_data (.t rfl) (.t rfl) (by repeat first | exact Upd.head | apply Upd.tail | apply Upd.right) ?_)
  refine nil ?_
  refine pN ?_
  refine seq ?_
  refine region ?_
  refine cons (opv (Ev.load ty29 (.t rfl) (ptsVar (by repeat first | exact mH | apply mT | apply mA) (Lens.id _))) ?_)
  refine cons (callv en12 (.cons (.t rfl) .nil) (fun w I => rcheck_ok _ d w (hd.keep0 I.keeps) (by omega)) ?_)
  refine cons (opv (Ev.assign (.t rfl)) ?_)
  refine nil ?_
  refine pN ?_
  refine seq ?_
  refine region ?_
  refine cons (opv (Ev.load ty29 (.t rfl) (ptsVar (by repeat first | exact mH | apply mT | apply mA) (Lens.id _))) ?_)
  refine cons (calln (X := OV) (fun _ : OV => True) (fun o => .tuple #[o.v, I (checkH h (d).length)]) (fun o => [OwnS o.v u8E (makeU h d) 5]) en13 (.cons (.t rfl) .nil) (fun w I => (make_u (wD h (OV.sub u8E.size in1 0 d.length)) d w (isSl_spare (isSl_own (by repeat first | exact mH | apply mT | apply mA) w I)) (by omega))) (fun x1 _ => ?_))
  refine cons (opv (Ev.move (.t rfl)) ?_)
  refine cons (opv (Ev.extract (.t rfl) rfl) ?_)
  refine cons (opv (Ev.extract (.t rfl) rfl) ?_)
  refine cons (opv (Ev.assign (.t rfl)) ?_)
  refine cons (opv (Ev.assign (.t rfl)) ?_)
  refine nil ?_
  refine pN ?_
  refine seq ?_
  refine region ?_
  refine cons (opv (Ev.load ty29 (.t rfl) (ptsVar (by repeat first | exact mH | apply mT | apply mA) (Lens.id _))) ?_)
  refine cons (calln (X := OV) (fun _ : OV => True) (fun o => .tuple #[o.v, I (checkH h (d).length)]) (fun o => [OwnS o.v u8E (makeU h d) 5]) en13 (.cons (.t rfl) .nil) (fun w I => (make_u (wD h (OV.sub u8E.size in1 0 d.length)) d w (isSl_spare (isSl_own (by repeat first | exact mH | apply mT | apply mA) w I)) (by omega))) (fun x2 _ => ?_))
  refine cons (opv (Ev.move (.t rfl)) ?_)
  refine cons (opv (Ev.extract (.t rfl) rfl) ?_)
  refine cons (opv (Ev.extract (.t rfl) rfl) ?_)
  refine cons (opv (Ev.assign (.t rfl)) ?_)
  refine cons (opv (Ev.assign (.t rfl)) ?_)
  refine nil ?_
  refine pN ?_
  refine seq ?_
  refine seq ?_
  refine region ?_
  refine cons (opv (Ev.load ty29 (.t rfl) (ptsVar (by repeat first | exact mH | apply mT | apply mA) (Lens.id _))) ?_)
  refine cons (callv en14 (.cons (.t rfl) .nil) (fun w I => check_ok (wD h (OV.sub u8E.size in1 0 d.length)) d w (isSl_spare (isSl_own (by repeat first | exact mH | apply mT | apply mA) w I)) (by omega)) ?_)
  refine cons (opv (Ev.move (.t rfl)) ?_)
  refine cons (opv (Ev.neq_i (.t rfl) (.t rfl)) ?_)
  refine cons (opv (Ev.move (.t rfl)) ?_)
  refine cons (opg rfl rfl (Ev.move (.t rfl)) ?_)
  refine cons (opg rfl rfl (Ev.move (.t rfl)) ?_)
  refine cons (opg rfl rfl (Ev.neq_i (.g rfl id) (.g rfl id)) ?_)
  refine cons (opv (Ev.pickO (.t rfl) (.c (v := .bool true) rfl) (fun {_} h => by cases h; rfl) ⟨_, rfl⟩ (by intro h1 h; first | (rw [h] <;> rfl) | (rw [h1, h] <;> rfl) | (rw [h, h1] <;> rfl) | simp_all)) ?_)
  refine cons (opv (Ev.move (.t rfl)) ?_)
  refine cons (opg rfl rfl (Ev.move (.t rfl)) ?_)
  refine cons (opg rfl rfl (Ev.move (.t rfl)) ?_)
  refine cons (opg rfl rfl (Ev.neq_i (.g rfl id) (.g rfl id)) ?_)
  refine cons (opv (Ev.pickO (.t rfl) (.c (v := .bool true) rfl) (fun {_} h => by cases h; rfl) ⟨_, rfl⟩ (by intro h1 h; first | (rw [h] <;> rfl) | (rw [h1, h] <;> rfl) | (rw [h, h1] <;> rfl) | simp_all)) ?_)
  refine cons (opv (Ev.move (.t rfl)) ?_)
  refine cons (opg rfl rfl (Ev.fieldAddr (o := 42) (.t rfl) (by kernel_rfl)) ?_)
  refine cons (opg rfl rfl (Ev.load ty27 (.g rfl id) (ptsVar (by repeat first | exact mH | apply mT | apply mA) SHeader.l_data)) ?_)
  refine cons (opg rfl rfl (Ev.fieldAddr (o := 42) (.t rfl) (by kernel_rfl)) ?_)
  refine cons (opg rfl rfl (Ev.load ty27 (.g rfl id) (ptsVar (by repeat first | exact mH | apply mT | apply mA) SHeader.l_data)) ?_)
  refine cons (callg rfl rfl en15 (.cons (.g rfl id) (.cons (.g rfl id) .nil)) (fun hg w I => kept_ok _ _ d w (isSl_own (by repeat first | exact mH | apply mT | apply mA) w I) (hd.keep0 I.keeps) (by omega)) ?_)
  refine cons (opg rfl rfl (Ev.not (.g rfl id)) ?_)
  refine cons (opv (Ev.pickO (.t rfl) (.c (v := .bool true) rfl) (fun {_} h => by cases h; rfl) ⟨_, rfl⟩ (by intro h1 h; first | (rw [h] <;> rfl) | (rw [h1, h] <;> rfl) | (rw [h, h1] <;> rfl) | simp_all)) ?_)
  refine nil ?_
  refine pN ?_
  refine condF rfl (by rw [show checkH (wD h (OV.sub u8E.size in1 0 d.length)) d.length = checkH h d.length from rfl]; simp) ?_
  refine skip ?_
  refine pN ?_
  refine seq ?_
  refine seq ?_
  refine region ?_
  refine cons (opv (Ev.move (.t rfl)) ?_)
  refine cons (opv (Ev.neq_i (.t rfl) (.c (v := I 0) rfl)) ?_)
  refine nil ?_
  refine pN ?_
  first | refine condD rfl (fun h1 => ?_) (fun h1 => ?_) | refine cond rfl (fun h1 => ?_) (fun h1 => ?_)
  · try simp only [Bool.and_eq_true, Bool.or_eq_true, Bool.or_eq_false_iff, Bool.and_eq_false_iff, Bool.not_eq_true', Bool.not_eq_false', decide_eq_true_eq, decide_eq_false_iff_not, Decidable.not_not] at h1
    have hc : checkH h d.length ≠ 0 := h1
    refine seq ?_
    refine region ?_
    refine cons (opv (Ev.move (.t rfl)) ?_)
    refine cons (opv (Ev.len Try.underlying27 (.t rfl) (by first | exact isSl_own (by repeat first | exact mH | apply mT | apply mA) | exact fun w I => IsSl.keep0 (by assumption) I.keeps)) ?_)
    refine cons (opv (Ev.eql_i (.t rfl) (.c (v := I 0) rfl)) ?_)
    refine cons (opv (Ev.move (.t rfl)) ?_)
    refine cons (opg rfl rfl (Ev.move (.t rfl)) ?_)
    refine cons (opg rfl rfl (Ev.len Try.underlying27 (.g rfl id) (by first | exact isSl_own (by repeat first | exact mH | apply mT | apply mA) | exact fun w I => IsSl.keep0 (by assumption) I.keeps)) ?_)
    refine cons (opg rfl rfl (Ev.eql_i (.g rfl id) (.c (v := I 0) rfl)) ?_)
    refine cons (opv (Ev.pickA (.t rfl) (fun {_} h => by cases h; rfl) ⟨_, rfl⟩ (by intro h1 h; first | (rw [h] <;> rfl) | (rw [h1, h] <;> rfl) | (rw [h, h1] <;> rfl) | simp_all) (.c (v := .bool false) rfl)) ?_)
    refine cons (opv (Ev.move (.t rfl)) ?_)
    refine cons (callg rfl rfl en16 .nil (fun hg w I => works_ok w) ?_)
    refine cons (opv (Ev.pickA (.t rfl) (fun {_} h => by cases h; rfl) ⟨_, rfl⟩ (by intro h1 h; first | (rw [h] <;> rfl) | (rw [h1, h] <;> rfl) | (rw [h, h1] <;> rfl) | simp_all) (.c (v := .bool false) rfl)) ?_)
    refine cons (opv (Ev.assign (.t rfl)) ?_)
    refine nil ?_
    refine pN ?_
    refine ret ?_
    refine pR ?_
    refine done rfl (.tmp rfl .nil) (retE ?_)
    have e : makeU h d = [] := if_neg hc
    rw [e]
    rfl
  · try simp only [Bool.and_eq_true, Bool.or_eq_true, Bool.or_eq_false_iff, Bool.and_eq_false_iff, Bool.not_eq_true', Bool.not_eq_false', decide_eq_true_eq, decide_eq_false_iff_not, Decidable.not_not] at h1
    have hc : checkH h d.length = 0 := by simpa using h1
    have hml := makeB_le h d hc
    rw [show makeU h d = makeB h d from if_pos hc]
    refine skip ?_
    refine pN ?_
    refine seq ?_
    refine region ?_
    refine cons (opv (Ev.load ty29 (.t rfl) (ptsVar (by repeat first | exact mH | apply mT | apply mA) (Lens.id _))) ?_)
    refine cons (callo en17 (.cons (.t rfl) .nil) (fun w I => rmake_ok h d w (hd.keep0 I.keeps) hc) (fun v3 => ?_))
    refine cons (opv (Ev.assign (.t rfl)) ?_)
    refine nil ?_
    refine pN ?_
    refine seq ?_
    refine seq ?_
    refine region ?_
    refine cons (opv (Ev.move (.t rfl)) ?_)
    refine cons (opv (Ev.move (.t rfl)) ?_)
    refine cons (callv en18 (.cons (.t rfl) (.cons (.t rfl) .nil)) (fun w I => sameBytes_ok _ _ _ _ w (by first | exact isSl_own (by repeat first | exact mH | apply mT | apply mA) w I | exact IsSl.keep0 (by assumption) I.keeps) (by first | exact isSl_own (by repeat first | exact mH | apply mT | apply mA) w I | exact IsSl.keep0 (by assumption) I.keeps)) ?_)
    refine cons (opv (Ev.not (.t rfl)) ?_)
    refine nil ?_
    refine pN ?_
    refine condF rfl (by simp) ?_
    refine skip ?_
    refine pN ?_
    refine seq ?_
    refine seq ?_
    refine region ?_
    refine cons (opv (Ev.assign (.c (v := I 0) rfl)) ?_)
    refine nil ?_
    refine pN ?_
    refine block ?_
    refine loop (X := Int × (List UInt8)) (fun x : Int × (List UInt8) => (0 ≤ x.1 ∧ x.1 ≤ x.2.length) ∧ (x.2.length = (makeB h d).length)) (fun x : Int × (List UInt8) => [(1, true, .pointer (some ⟨b1, 0, none⟩)), (3, true, .pointer (some ⟨b2, 0, none⟩)), (5, true, x1.v), (7, true, x2.v), (9, true, v3.v), (10, true, I x.1)]) (fun x : Int × (List UInt8) => [OwnS v3.v u8E (makeB h d) 5, OwnS x2.v u8E (makeB h d) 5, OwnS x1.v u8E x.2 5, OwnS in1.v u8E (d ++ marks) 5, Var b2 eHeader (wD h (OV.sub u8E.size in1 0 d.length)) 29, Var b1 eHeader h 29]) (fun x : Int × (List UInt8) => (x.2.length - x.1).toNat) (0, _) ⟨?_, ?_⟩ (by repeat first | exact Sub.nil | refine Sub.cons rfl ?_) (by repeat first | exact sR | exact sN | apply sC | apply sS | apply sA) (fun x hx => ?_)
    · omega
    · rfl
    obtain ⟨i, xs⟩ := x
    obtain ⟨hi, hxl⟩ : (0 ≤ i ∧ i ≤ xs.length) ∧ (xs.length = (makeB h d).length) := hx
    show Sat _ _ [(1, true, .pointer (some ⟨b1, 0, none⟩)), (3, true, .pointer (some ⟨b2, 0, none⟩)), (5, true, x1.v), (7, true, x2.v), (9, true, v3.v), (10, true, I i)] [OwnS v3.v u8E (makeB h d) 5, OwnS x2.v u8E (makeB h d) 5, OwnS x1.v u8E xs 5, OwnS in1.v u8E (d ++ marks) 5, Var b2 eHeader (wD h (OV.sub u8E.size in1 0 d.length)) 29, Var b1 eHeader h 29]
    refine seq ?_
    refine seq ?_
    refine region ?_
    refine cons (opv (Ev.move (.t rfl)) ?_)
    refine cons (opv (Ev.move (.t rfl)) ?_)
    refine cons (opv (Ev.len Try.underlying27 (.t rfl) (by first | exact isSl_own (by repeat first | exact mH | apply mT | apply mA) | exact fun w I => IsSl.keep0 (by assumption) I.keeps)) ?_)
    refine cons (opv (Ev.lss_i (.t rfl) (.t rfl)) ?_)
    refine nil ?_
    refine pN ?_
    first | refine condD rfl (fun hlt => ?_) (fun hge => ?_) | refine cond rfl (fun hlt => ?_) (fun hge => ?_)
    · try simp only [Bool.and_eq_true, Bool.or_eq_true, Bool.or_eq_false_iff, Bool.and_eq_false_iff, Bool.not_eq_true', Bool.not_eq_false', decide_eq_true_eq, decide_eq_false_iff_not, Decidable.not_not] at hlt
      refine skip ?_
      refine pN ?_
      refine seq ?_
      refine block ?_
      refine region ?_
      refine cons (opv (Ev.move (.t rfl)) ?_)
      refine cons (opv (Ev.move (.t rfl)) ?_)
      refine cons (opv (Ev.indexAddr Try.underlying27 ty5 (.t rfl) (.t rfl) (by first | exact isSl_own (by repeat first | exact mH | apply mT | apply mA) | exact fun w I => IsSl.keep0 (by assumption) I.keeps) (fun _ => by omega)) ?_)
      refine cons (storeS0 ty5 (.t rfl) (.c (v := U8 7) rfl) (by repeat first | exact Upd.head | apply Upd.tail | apply Upd.right) (by omega) ?_)
      refine nil ?_
      refine bN ?_
      refine pN ?_
      refine region ?_
      refine cons (opv (Ev.move (.t rfl)) ?_)
      refine cons (opv (Ev.add_i (.t rfl) (.c (v := I 1) rfl) (fun _ => by omega)) ?_)
      refine cons (opv (Ev.assign (.t rfl)) ?_)
      refine nil ?_
      refine pN ?_
      refine next (X := Int × (List UInt8)) (i + 1, _) ⟨?_, ?_⟩ ?_ (by repeat first | exact Sub.nil | refine Sub.cons rfl ?_) (by repeat first | exact sR | exact sN | apply sC | apply sS | apply sA)
      · try dsimp only
        rw [List.length_set]; omega
      · try dsimp only
        rw [List.length_set]; exact hxl
      · try dsimp only
        rw [List.length_set]; omega
    · try simp only [Bool.and_eq_true, Bool.or_eq_true, Bool.or_eq_false_iff, Bool.and_eq_false_iff, Bool.not_eq_true', Bool.not_eq_false', decide_eq_true_eq, decide_eq_false_iff_not, Decidable.not_not] at hge
      refine exit ?_
      refine pX ?_
      refine pX ?_
      refine bX ?_
      refine pN ?_
      refine seq ?_
      refine seq ?_
      refine region ?_
      refine cons (opv (Ev.assign (.c (v := I 0) rfl)) ?_)
      refine nil ?_
      refine pN ?_
      refine block ?_
      refine loop (X := Int × OV × (List UInt8)) (fun x : Int × OV × (List UInt8) => (0 ≤ x.1 ∧ x.1 ≤ 20) ∧ ((x.2.2.length : Int) = (makeB h d).length + x.1)) (fun x : Int × OV × (List UInt8) => [(1, true, .pointer (some ⟨b1, 0, none⟩)), (3, true, .pointer (some ⟨b2, 0, none⟩)), (5, true, x.2.1.v), (7, true, x2.v), (9, true, v3.v), (11, true, I x.1)]) (fun x : Int × OV × (List UInt8) => [OwnS v3.v u8E (makeB h d) 5, OwnS x2.v u8E (makeB h d) 5, OwnS x.2.1.v u8E x.2.2 5, OwnS in1.v u8E (d ++ marks) 5, Var b2 eHeader (wD h (OV.sub u8E.size in1 0 d.length)) 29, Var b1 eHeader h 29]) (fun x : Int × OV × (List UInt8) => (20 - x.1).toNat) (0, x1, xs) ⟨?_, ?_⟩ (by repeat first | exact Sub.nil | refine Sub.cons rfl ?_) (by repeat first | exact sR | exact sN | apply sC | apply sS | apply sA) (fun x hx => ?_)
      · omega
      · dsimp only
        omega
      obtain ⟨j, o, ys⟩ := x
      obtain ⟨hj, hyl⟩ : (0 ≤ j ∧ j ≤ 20) ∧ ((ys.length : Int) = (makeB h d).length + j) := hx
      show Sat _ _ [(1, true, .pointer (some ⟨b1, 0, none⟩)), (3, true, .pointer (some ⟨b2, 0, none⟩)), (5, true, o.v), (7, true, x2.v), (9, true, v3.v), (11, true, I j)] [OwnS v3.v u8E (makeB h d) 5, OwnS x2.v u8E (makeB h d) 5, OwnS o.v u8E ys 5, OwnS in1.v u8E (d ++ marks) 5, Var b2 eHeader (wD h (OV.sub u8E.size in1 0 d.length)) 29, Var b1 eHeader h 29]
      refine seq ?_
      refine seq ?_
      refine region ?_
      refine cons (opv (Ev.move (.t rfl)) ?_)
      refine cons (opv (Ev.lss_i (.t rfl) (.c (v := I 20) rfl)) ?_)
      refine nil ?_
      refine pN ?_
      first | refine condD rfl (fun hlt => ?_) (fun hge => ?_) | refine cond rfl (fun hlt => ?_) (fun hge => ?_)
      · try simp only [Bool.and_eq_true, Bool.or_eq_true, Bool.or_eq_false_iff, Bool.and_eq_false_iff, Bool.not_eq_true', Bool.not_eq_false', decide_eq_true_eq, decide_eq_false_iff_not, Decidable.not_not] at hlt
        refine skip ?_
        refine pN ?_
        refine seq ?_
        refine block ?_
        refine region ?_
        refine cons (opv (Ev.move (.t rfl)) ?_)
        refine cons (buildSlice (E := u8E) Try.underlying27 ty5 z5 (.cons (.c (v := U8 7) rfl) .nil) rfl rfl (fun v4 => ?_))
        refine cons (append (E := u8E) Try.underlying27 ty5 rfl zb5 zs5 (.t rfl) (.t rfl) (fun _ => by repeat first | exact Upd.head | apply Upd.tail | apply Upd.right) (by first | exact isSl_own (by repeat first | exact mH | apply mT | apply mA) | exact fun w I => IsSl.keep0 (by assumption) I.keeps) (⟨by (show _ ≤ 9223372036854775807); first | omega | (simp; done) | (simp; omega), by first | omega | (simp; done) | (simp; omega)⟩) (fun v5 => ?_))
        refine cons (opv (Ev.assign (.t rfl)) ?_)
        refine nil ?_
        refine bN ?_
        refine pN ?_
        refine region ?_
        refine cons (opv (Ev.move (.t rfl)) ?_)
        refine cons (opv (Ev.add_i (.t rfl) (.c (v := I 1) rfl) (fun _ => by omega)) ?_)
        refine cons (opv (Ev.assign (.t rfl)) ?_)
        refine nil ?_
        refine pN ?_
        refine next (X := Int × OV × (List UInt8)) (j + 1, _, _) ⟨?_, ?_⟩ ?_ (by repeat first | exact Sub.nil | refine Sub.cons rfl ?_) (by repeat first | exact sR | exact sN | apply sC | apply sS | apply sA)
        · try dsimp only
          omega
        · try dsimp only
          simp; omega
        · try dsimp only
          omega
      · try simp only [Bool.and_eq_true, Bool.or_eq_true, Bool.or_eq_false_iff, Bool.and_eq_false_iff, Bool.not_eq_true', Bool.not_eq_false', decide_eq_true_eq, decide_eq_false_iff_not, Decidable.not_not] at hge
        refine exit ?_
        refine pX ?_
        refine pX ?_
        refine bX ?_
        refine pN ?_
        refine seq ?_
        refine region ?_
        refine cons (opv (Ev.move (.t rfl)) ?_)
        refine cons (opv (Ev.move (.t rfl)) ?_)
        refine cons (callv en18 (.cons (.t rfl) (.cons (.t rfl) .nil)) (fun w I => sameBytes_ok _ _ _ _ w (by first | exact isSl_own (by repeat first | exact mH | apply mT | apply mA) w I | exact IsSl.keep0 (by assumption) I.keeps) (by first | exact isSl_own (by repeat first | exact mH | apply mT | apply mA) w I | exact IsSl.keep0 (by assumption) I.keeps)) ?_)
        refine cons (opv (Ev.move (.t rfl)) ?_)
        refine cons (opg rfl rfl (Ev.fieldAddr (o := 42) (.t rfl) (by kernel_rfl)) ?_)
        refine cons (opg rfl rfl (Ev.load ty27 (.g rfl id) (ptsVar (by repeat first | exact mH | apply mT | apply mA) SHeader.l_data)) ?_)
        refine cons (opg rfl rfl (Ev.fieldAddr (o := 42) (.t rfl) (by kernel_rfl)) ?_)
        refine cons (opg rfl rfl (Ev.load ty27 (.g rfl id) (ptsVar (by repeat first | exact mH | apply mT | apply mA) SHeader.l_data)) ?_)
        refine cons (callg rfl rfl en15 (.cons (.g rfl id) (.cons (.g rfl id) .nil)) (fun hg w I => kept_ok _ _ d w (isSl_own (by repeat first | exact mH | apply mT | apply mA) w I) (hd.keep0 I.keeps) (by omega)) ?_)
        refine cons (opv (Ev.pickA (.t rfl) (fun {_} h => by cases h; rfl) ⟨_, rfl⟩ (by intro h1 h; first | (rw [h] <;> rfl) | (rw [h1, h] <;> rfl) | (rw [h, h1] <;> rfl) | simp_all) (.c (v := .bool false) rfl)) ?_)
        refine cons (opv (Ev.move (.t rfl)) ?_)
        refine cons (opg rfl rfl (Ev.move (.t rfl)) ?_)
        refine cons (opg rfl rfl (Ev.len Try.underlying27 (.g rfl id) (by first | exact isSl_own (by repeat first | exact mH | apply mT | apply mA) | exact fun w I => IsSl.keep0 (by assumption) I.keeps)) ?_)
        refine cons (opg rfl rfl (Ev.move (.t rfl)) ?_)
        refine cons (opg rfl rfl (Ev.len Try.underlying27 (.g rfl id) (by first | exact isSl_own (by repeat first | exact mH | apply mT | apply mA) | exact fun w I => IsSl.keep0 (by assumption) I.keeps)) ?_)
        refine cons (opg rfl rfl (Ev.add_i (.g rfl id) (.c (v := I 20) rfl) (fun _ => by first | omega | (rename_i hg; simp at hg; omega))) ?_)
        refine cons (opg rfl rfl (Ev.eql_i (.g rfl id) (.g rfl id)) ?_)
        refine cons (opv (Ev.pickA (.t rfl) (fun {_} h => by cases h; rfl) ⟨_, rfl⟩ (by intro h1 h; first | (rw [h] <;> rfl) | (rw [h1, h] <;> rfl) | (rw [h, h1] <;> rfl) | simp_all) (.c (v := .bool false) rfl)) ?_)
        refine cons (opv (Ev.move (.t rfl)) ?_)
        refine cons (callg rfl rfl en16 .nil (fun hg w I => works_ok w) ?_)
        refine cons (opv (Ev.pickA (.t rfl) (fun {_} h => by cases h; rfl) ⟨_, rfl⟩ (by intro h1 h; first | (rw [h] <;> rfl) | (rw [h1, h] <;> rfl) | (rw [h, h1] <;> rfl) | simp_all) (.c (v := .bool false) rfl)) ?_)
        refine cons (opv (Ev.assign (.t rfl)) ?_)
        refine nil ?_
        refine pN ?_
        refine ret ?_
        refine done rfl (.tmp rfl .nil) (retE ?_)
        simp
        omega
end Go.Proofs.Ytegcihhhighipaa
