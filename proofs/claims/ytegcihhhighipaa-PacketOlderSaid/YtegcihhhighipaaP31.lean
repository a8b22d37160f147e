/- packet -/
import Derived.Test.YtegcihhhighipaaP30
set_option linter.unusedVariables false
set_option linter.unusedSimpArgs false
namespace Go.Proofs.Ytegcihhhighipaa
open Go Go.Gx

/-- A header with another TTL. -/
def atT (h : SHeader) (t : UInt8) : SHeader := { h with tTL := t }
theorem older_make (h : SHeader) (d : List UInt8) (hc : checkH h d.length = 0) (ht : h.tTL ≠ 0) : olderE (makeB h d) = 0 ∧ olderU (makeB h d) = makeB (oldH h) d := by
  have h1 := read_make h d [] hc
  rw [List.append_nil] at h1
  obtain ⟨rE, _, rD, rH⟩ := h1
  have e : olderE (makeB h d) = 0 := by
    unfold olderE
    rw [if_neg (fun k => k rE), rH, rD, if_neg (show ¬ (wD h nilSl).tTL = 0 from ht)]
    exact hc
  refine ⟨e, ?_⟩
  unfold olderU
  rw [if_pos e, rH, rD]
  rfl
theorem older_zero (h : SHeader) (d : List UInt8) (hc : checkH h d.length = 0) (ht : h.tTL = 0) : olderE (makeB h d) = 3 ∧ olderU (makeB h d) = [] := by
  have h1 := read_make h d [] hc
  rw [List.append_nil] at h1
  obtain ⟨rE, _, rD, rH⟩ := h1
  have e : olderE (makeB h d) = 3 := by
    unfold olderE
    rw [if_neg (fun k => k rE), rH, if_pos (show (wD h nilSl).tTL = 0 from ht)]
  refine ⟨e, ?_⟩
  unfold olderU
  rw [if_neg (by rw [e]; decide)]
def olderW : List UInt8 := [69, 0, 0, 29, 0, 0, 64, 0, 63, 17, 39, 206, 10, 0, 0, 1, 10, 0, 0, 2, 0, 7, 0, 53, 0, 9, 234, 157, 1]
theorem wire_older : olderE wireB = 0 ∧ olderU wireB = olderW := by decide +kernel
theorem wire_cut : readE (wireB.take 28) = 160 ∧ readE (wireB.set (Int.toNat 28) 2) = 162 ∧ readE [] = 160 ∧ readE [0] = 161 ∧ readE [69] = 160 ∧ readE ((List.replicate (Int.toNat 20) u8E.zero).set (Int.toNat 0) 70) = 161 := by decide +kernel
def sixW : List UInt8 := (List.replicate (Int.toNat 40) u8E.zero).set (Int.toNat 0) 96
theorem six_read : readE sixW = 0 ∧ readN sixW = 40 ∧ (readH sixW).src.v6 = true ∧ (readH sixW).proto = 0 := by decide +kernel
theorem ck1 (o : OV) : checkH (wD { plainH with proto := 1 } o) ([1] : List UInt8).length = 2 := (by decide +kernel : checkH { plainH with proto := 1 } ([1] : List UInt8).length = 2)
theorem ck2 (o : OV) : checkH (wD { plainH with proto := 1, srcPort := 0, dstPort := 0 } o) ([1] : List UInt8).length = 0 := (by decide +kernel : checkH { plainH with proto := 1, srcPort := 0, dstPort := 0 } ([1] : List UInt8).length = 0)
theorem ck3 (o : OV) : checkH (wD { plainH with id := 65536 } o) ([1] : List UInt8).length = 2 := (by decide +kernel : checkH { plainH with id := 65536 } ([1] : List UInt8).length = 2)
theorem ck4 (o : OV) : checkH (wD { plainH with dst := ⟨true, plainA 2⟩ } o) ([1] : List UInt8).length = 2 := (by decide +kernel : checkH { plainH with dst := ⟨true, plainA 2⟩ } ([1] : List UInt8).length = 2)
theorem ck5 (o : OV) : checkH (wD plainH o) (List.replicate (Int.toNat 2020) u8E.zero).length = 0 := (by decide +kernel : checkH plainH (List.replicate (Int.toNat 2020) u8E.zero).length = 0)
theorem ck6 (o : OV) : checkH (wD plainH o) (List.replicate (Int.toNat 2021) u8E.zero).length = 4 := (by decide +kernel : checkH plainH (List.replicate (Int.toNat 2021) u8E.zero).length = 4)

theorem PacketOlder_walk (h : SHeader) (d : List UInt8) (w : World) (hd : IsSl u8E w h.data.v d) : Calls Try.prog 9 #[eHeader.val h] w (RetV w (.bool true)) := by
  have hdl := hd.le
  have hc := fit_check h ((d.take (min (d.length : Int) 60).toNat).drop 0)
  have hfd := checkH_len (fitH h) _ hc
  have mU : makeU (fitH h) (fitD h ((d.take (min (d.length : Int) 60).toNat).drop 0)) = makeB (fitH h) (fitD h ((d.take (min (d.length : Int) 60).toNat).drop 0)) := if_pos hc
  refine enter0 74 Try.func9 rfl rfl (Nat.le_of_ble_eq_true rfl) ?_
  refine seq ?_
  refine region ?_
  refine cons (box (E := eHeader) (.t rfl) (fun b1 => ?_))
  refine cons (opv (Ev.assign (.c (v := .bool false) rfl)) ?_)
  refine nil ?_
  refine pN ?_
  refine seq ?_
  refine seq ?_
  refine region ?_
  refine cons (callv en16 .nil (fun w I => works_ok w) ?_)
  refine cons (opv (Ev.not (.t rfl)) ?_)
  refine nil ?_
  refine pN ?_
  refine condF rfl (rfl) ?_
  refine skip ?_
  refine pN ?_
  refine seq ?_
  refine region ?_
  refine cons (opv (Ev.fieldAddr (o := 42) (.t rfl) (by kernel_rfl)) ?_)
  refine cons (opv (Ev.load ty27 (.t rfl) (ptsVar (by repeat first | exact mH | apply mT | apply mA) SHeader.l_data)) ?_)
  refine cons (opv (Ev.fieldAddr (o := 42) (.t rfl) (by kernel_rfl)) ?_)
  refine cons (opv (Ev.load ty27 (.t rfl) (ptsVar (by repeat first | exact mH | apply mT | apply mA) SHeader.l_data)) ?_)
  refine cons (opv (Ev.len Try.underlying27 (.t rfl) (fun w I => hd.keep0 I.keeps)) ?_)
  refine cons (opv (Ev.min_i (.t rfl) (.c (v := I 60) rfl)) ?_)
  refine cons (opv (Ev.to (v' := (OV.sub u8E.size h.data 0 (min (d.length : Int) 60).toNat).v) (Ev.sliceH Try.underlying27 ty5 (.t rfl) (.t rfl) (fun w I => hd.keep0 I.keeps) (fun _ => by omega)) (rfl)) ?_)
  refine cons (opv (Ev.fieldAddr (o := 42) (.t rfl) (by kernel_rfl)) ?_)
  refine cons (storeV ty27 SHeader.l_data (.t rfl) (.t rfl) (by repeat first | exact Upd.head | apply Upd.tail | apply Upd.right) ?_)
  refine nil ?_
  refine pN ?_
  refine seq ?_
  refine region ?_
  refine cons (opv (Ev.load ty29 (.t rfl) (ptsVar (by repeat first | exact mH | apply mT | apply mA) (Lens.id _))) ?_)
  refine cons (calln (X := OV) (fun _ : OV => True) (fun o => eHeader.val (wD (fitH h) o)) (fun o => [OwnS o.v u8E (fitD h ((d.take (min (d.length : Int) 60).toNat).drop 0)) 5]) en21 (.cons (.t rfl) .nil) (fun w I => rfit_ok (wD h (OV.sub u8E.size h.data 0 (min (d.length : Int) 60).toNat)) ((d.take (min (d.length : Int) 60).toNat).drop 0) w (IsSl.sub (hd.keep0 I.keeps) (by omega) (by omega))) (fun x1 _ => ?_))
  refine cons (storeV ty29 (Lens.id _) (.t rfl) (.t rfl) (by repeat first | exact Upd.head | apply Upd.tail | apply Upd.right) ?_)
  refine nil ?_
  refine pN ?_
  refine seq ?_
  refine region ?_
  refine cons (opv (Ev.load ty29 (.t rfl) (ptsVar (by repeat first | exact mH | apply mT | apply mA) (Lens.id _))) ?_)
  refine cons (calln (X := OV) (fun _ : OV => True) (fun o => .tuple #[o.v, I (checkH (fitH h) ((fitD h ((d.take (min (d.length : Int) 60).toNat).drop 0))).length)]) (fun o => [OwnS o.v u8E (makeU (fitH h) (fitD h ((d.take (min (d.length : Int) 60).toNat).drop 0))) 5]) en13 (.cons (.t rfl) .nil) (fun w I => make_u (wD (fitH h) x1) (fitD h ((d.take (min (d.length : Int) 60).toNat).drop 0)) w (isSl_own (by repeat first | exact mH | apply mT | apply mA) w I) (by omega)) (fun x2 _ => ?_))
  refine cons (opv (Ev.move (.t rfl)) ?_)
  refine cons (opv (Ev.extract (.t rfl) rfl) ?_)
  refine cons (opv (Ev.to (v' := I 0) (Ev.extract (.t rfl) rfl) (congrArg I hc)) ?_)
  refine cons (opv (Ev.assign (.t rfl)) ?_)
  refine cons (opv (Ev.assign (.t rfl)) ?_)
  refine nil ?_
  refine pN ?_
  refine seq ?_
  refine seq ?_
  refine region ?_
  rw [mU]
  refine cons (opv (Ev.move (.t rfl)) ?_)
  refine cons (opv (Ev.neq_i (.t rfl) (.c (v := I 0) rfl)) ?_)
  refine nil ?_
  refine pN ?_
  refine condF rfl (by simp) ?_
  refine skip ?_
  refine pN ?_
  refine seq ?_
  refine block ?_
  refine loop (X := UInt8 × OV) (fun x : UInt8 × OV => True) (fun x : UInt8 × OV => [(1, true, .pointer (some ⟨b1, 0, none⟩)), (3, true, x.2.v)]) (fun x : UInt8 × OV => [OwnS x.2.v u8E (makeB (atT (fitH h) x.1) (fitD h ((d.take (min (d.length : Int) 60).toNat).drop 0))) 5, OwnS x1.v u8E (fitD h ((d.take (min (d.length : Int) 60).toNat).drop 0)) 5, Var b1 eHeader (wD (atT (fitH h) x.1) x1) 29]) (fun x : UInt8 × OV => x.1.toNat) ((fitH h).tTL, x2) trivial (by repeat first | exact Sub.nil | refine Sub.cons rfl ?_) (by repeat first | exact sR | exact sN | apply sC | apply sS | apply sA) (fun x hx => ?_)
  obtain ⟨t, o⟩ := x
  show Sat _ _ [(1, true, .pointer (some ⟨b1, 0, none⟩)), (3, true, o.v)] [OwnS o.v u8E (makeB (atT (fitH h) t) (fitD h ((d.take (min (d.length : Int) 60).toNat).drop 0))) 5, OwnS x1.v u8E (fitD h ((d.take (min (d.length : Int) 60).toNat).drop 0)) 5, Var b1 eHeader (wD (atT (fitH h) t) x1) 29]
  refine seq ?_
  refine seq ?_
  refine region ?_
  refine cons (opv (Ev.fieldAddr (o := 37) (.t rfl) (by kernel_rfl)) ?_)
  refine cons (opv (Ev.load ty5 (.t rfl) (ptsVar (by repeat first | exact mH | apply mT | apply mA) SHeader.l_tTL)) ?_)
  refine cons (opv (Ev.gtr_u8 (.t rfl) (.c (v := U8 0) rfl)) ?_)
  refine nil ?_
  refine pN ?_
  first | refine condD rfl (fun hgt => ?_) (fun hgt => ?_) | refine cond rfl (fun hgt => ?_) (fun hgt => ?_)
  · try simp only [Bool.and_eq_true, Bool.or_eq_true, Bool.or_eq_false_iff, Bool.and_eq_false_iff, Bool.not_eq_true', Bool.not_eq_false', decide_eq_true_eq, decide_eq_false_iff_not, Decidable.not_not] at hgt
    have hgt : (0 : UInt8) < t := hgt
    refine skip ?_
    refine pN ?_
    refine block ?_
    refine seq ?_
    refine seq ?_
    refine region ?_
    obtain ⟨oE, oU⟩ := older_make (atT (fitH h) t) (fitD h ((d.take (min (d.length : Int) 60).toNat).drop 0)) hc (fun k => by have k : t = 0 := k; rw [k] at hgt; exact absurd hgt (by decide))
    obtain ⟨rE, rN, rU, rH⟩ := read_nil (atT (fitH h) (t - 1)) (fitD h ((d.take (min (d.length : Int) 60).toNat).drop 0)) hc
    refine cons (opv (Ev.move (.t rfl)) ?_)
    refine cons (calln (X := OV) (fun _ : OV => True) (fun o => .tuple #[o.v, I (olderE (makeB (atT (fitH h) t) (fitD h ((d.take (min (d.length : Int) 60).toNat).drop 0))))]) (fun o => [OwnS o.v u8E (olderU (makeB (atT (fitH h) t) (fitD h ((d.take (min (d.length : Int) 60).toNat).drop 0)))) 5]) en27 (.cons (.t rfl) .nil) (fun w I => older_u _ (makeB (atT (fitH h) t) (fitD h ((d.take (min (d.length : Int) 60).toNat).drop 0))) w (isSl_own (by repeat first | exact mH | apply mT | apply mA) w I)) (fun x3 _ => ?_))
    refine cons (opv (Ev.move (.t rfl)) ?_)
    refine cons (opv (Ev.extract (.t rfl) rfl) ?_)
    refine cons (opv (Ev.to (v' := I 0) (Ev.extract (.t rfl) rfl) (congrArg I oE)) ?_)
    refine cons (opv (Ev.assign (.t rfl)) ?_)
    refine cons (opv (Ev.assign (.t rfl)) ?_)
    refine nil ?_
    refine pN ?_
    refine seq ?_
    refine region ?_
    rw [oU]
    show Sat _ _ _ (OwnS x3.v u8E (makeB (atT (fitH h) (t - 1)) (fitD h ((d.take (min (d.length : Int) 60).toNat).drop 0))) 5 :: _)
    refine cons (opv (Ev.move (.t rfl)) ?_)
    refine cons (opv (Ev.neq_i (.t rfl) (.c (v := I 0) rfl)) ?_)
    refine nil ?_
    refine pN ?_
    refine condF rfl (by simp) ?_
    refine skip ?_
    refine pN ?_
    refine seq ?_
    refine region ?_
    refine cons (opv (Ev.fieldAddr (o := 37) (.t rfl) (by kernel_rfl)) ?_)
    refine cons (opv (Ev.load ty5 (.t rfl) (ptsVar (by repeat first | exact mH | apply mT | apply mA) SHeader.l_tTL)) ?_)
    refine cons (opv (Ev.sub_u8 (.t rfl) (.c (v := U8 1) rfl)) ?_)
    refine cons (opv (Ev.fieldAddr (o := 37) (.t rfl) (by kernel_rfl)) ?_)
    refine cons (storeV ty5 SHeader.l_tTL (.t rfl) (.t rfl) (by repeat first | exact Upd.head | apply Upd.tail | apply Upd.right) ?_)
    refine nil ?_
    refine pN ?_
    refine seq ?_
    refine region ?_
    refine cons (opv (Ev.move (.t rfl)) ?_)
    refine cons (calln (X := OV) (fun _ : OV => True) (fun o => .tuple #[eHeader.val (wD (readH (makeB (atT (fitH h) (t - 1)) (fitD h ((d.take (min (d.length : Int) 60).toNat).drop 0)))) o), I (readN (makeB (atT (fitH h) (t - 1)) (fitD h ((d.take (min (d.length : Int) 60).toNat).drop 0)))), I (readE (makeB (atT (fitH h) (t - 1)) (fitD h ((d.take (min (d.length : Int) 60).toNat).drop 0))))]) (fun o => [OwnS o.v u8E (readU (makeB (atT (fitH h) (t - 1)) (fitD h ((d.take (min (d.length : Int) 60).toNat).drop 0)))) 5]) en22 (.cons (.t rfl) .nil) (fun w I => read_u _ (makeB (atT (fitH h) (t - 1)) (fitD h ((d.take (min (d.length : Int) 60).toNat).drop 0))) w (isSl_own (by repeat first | exact mH | apply mT | apply mA) w I)) (fun x4 _ => ?_))
    refine cons (opv (Ev.move (.t rfl)) ?_)
    refine cons (opv (Ev.to (v' := eHeader.val (wD (atT (fitH h) (t - 1)) x4)) (Ev.extract (.t rfl) rfl) (by rw [rH]; rfl)) ?_)
    refine cons (opv (Ev.to (v' := I ((makeB (atT (fitH h) (t - 1)) (fitD h ((d.take (min (d.length : Int) 60).toNat).drop 0))).length : Int)) (Ev.extract (.t rfl) rfl) (congrArg I rN)) ?_)
    refine cons (opv (Ev.to (v' := I 0) (Ev.extract (.t rfl) rfl) (congrArg I rE)) ?_)
    refine cons (alloc z29 (fun b2 => ?_))
    refine cons (storeV ty29 (Lens.id _) (.t rfl) (.t rfl) (by repeat first | exact Upd.head | apply Upd.tail | apply Upd.right) ?_)
    refine cons (opv (Ev.assign (.t rfl)) ?_)
    refine cons (opv (Ev.assign (.t rfl)) ?_)
    refine nil ?_
    refine pN ?_
    refine seq ?_
    refine region ?_
    rw [rU]
    refine cons (opv (Ev.move (.t rfl)) ?_)
    refine cons (opv (Ev.neq_i (.t rfl) (.c (v := I 0) rfl)) ?_)
    refine cons (opv (Ev.move (.t rfl)) ?_)
    refine cons (opg rfl rfl (Ev.move (.t rfl)) ?_)
    refine cons (opg rfl rfl (Ev.move (.t rfl)) ?_)
    refine cons (opg rfl rfl (Ev.len Try.underlying27 (.g rfl id) (by first | exact isSl_own (by repeat first | exact mH | apply mT | apply mA) | exact fun w I => IsSl.keep0 (by assumption) I.keeps)) ?_)
    refine cons (opg rfl rfl (Ev.neq_i (.g rfl id) (.g rfl id)) ?_)
    refine cons (opv (Ev.pickO (.t rfl) (.c (v := .bool true) rfl) (fun {_} h => by cases h; rfl) ⟨_, rfl⟩ (by intro h1 h; first | (rw [h] <;> rfl) | (rw [h1, h] <;> rfl) | (rw [h, h1] <;> rfl) | simp_all)) ?_)
    refine cons (opv (Ev.move (.t rfl)) ?_)
    refine cons (opg rfl rfl (Ev.load ty29 (.t rfl) (ptsVar (by repeat first | exact mH | apply mT | apply mA) (Lens.id _))) ?_)
    refine cons (opg rfl rfl (Ev.load ty29 (.t rfl) (ptsVar (by repeat first | exact mH | apply mT | apply mA) (Lens.id _))) ?_)
    refine cons (callg rfl rfl en19 (.cons (.g rfl id) (.cons (.g rfl id) .nil)) (fun hg w I => (same_self (atT (fitH h) (t - 1)) x4 x1 (fitD h ((d.take (min (d.length : Int) 60).toNat).drop 0))) ▸ same_ok (wD (atT (fitH h) (t - 1)) x4) (wD (atT (fitH h) (t - 1)) x1) (fitD h ((d.take (min (d.length : Int) 60).toNat).drop 0)) (fitD h ((d.take (min (d.length : Int) 60).toNat).drop 0)) w (isSl_own (by repeat first | exact mH | apply mT | apply mA) w I) (isSl_own (by repeat first | exact mH | apply mT | apply mA) w I)) ?_)
    refine cons (opg rfl rfl (Ev.not (.g rfl id)) ?_)
    refine cons (opv (Ev.pickO (.t rfl) (.c (v := .bool true) rfl) (fun {_} h => by cases h; rfl) ⟨_, rfl⟩ (by intro h1 h; first | (rw [h] <;> rfl) | (rw [h1, h] <;> rfl) | (rw [h, h1] <;> rfl) | simp_all)) ?_)
    refine nil ?_
    refine pN ?_
    refine condF rfl (by simp) ?_
    refine skip ?_
    refine bN ?_
    refine pN ?_
    refine next (X := UInt8 × OV) (t - 1, _) trivial ?_ (by repeat first | exact Sub.nil | refine Sub.cons rfl ?_) (by repeat first | exact sR | exact sN | apply sC | apply sS | apply sA)
    · try dsimp only
      have k : (0 : UInt8) < t := hgt
      rw [UInt8.lt_iff_toNat_lt] at k
      have e : (0 : UInt8).toNat = 0 := rfl
      have e1 : (1 : UInt8).toNat = 1 := rfl
      rw [UInt8.toNat_sub_of_le _ _ (by rw [UInt8.le_iff_toNat_le]; omega)]
      omega
  · try simp only [Bool.and_eq_true, Bool.or_eq_true, Bool.or_eq_false_iff, Bool.and_eq_false_iff, Bool.not_eq_true', Bool.not_eq_false', decide_eq_true_eq, decide_eq_false_iff_not, Decidable.not_not] at hgt
    have hgt : ¬ (0 : UInt8) < t := hgt
    refine exit ?_
    refine pX ?_
    refine pX ?_
    refine bX ?_
    refine pN ?_
    refine seq ?_
    refine region ?_
    obtain ⟨zE, zU⟩ := older_zero (atT (fitH h) t) (fitD h ((d.take (min (d.length : Int) 60).toNat).drop 0)) hc (by apply UInt8.toNat_inj.1; have k : ¬ (0 : UInt8) < t := hgt; rw [UInt8.lt_iff_toNat_lt] at k; have e : (0 : UInt8).toNat = 0 := rfl; show t.toNat = 0; omega)
    refine cons (opv (Ev.move (.t rfl)) ?_)
    refine cons (calln (X := OV) (fun _ : OV => True) (fun o => .tuple #[o.v, I (olderE (makeB (atT (fitH h) t) (fitD h ((d.take (min (d.length : Int) 60).toNat).drop 0))))]) (fun o => [OwnS o.v u8E (olderU (makeB (atT (fitH h) t) (fitD h ((d.take (min (d.length : Int) 60).toNat).drop 0)))) 5]) en27 (.cons (.t rfl) .nil) (fun w I => older_u _ (makeB (atT (fitH h) t) (fitD h ((d.take (min (d.length : Int) 60).toNat).drop 0))) w (isSl_own (by repeat first | exact mH | apply mT | apply mA) w I)) (fun x5 _ => ?_))
    refine cons (opv (Ev.move (.t rfl)) ?_)
    refine cons (opv (Ev.extract (.t rfl) rfl) ?_)
    refine cons (opv (Ev.to (v' := I 3) (Ev.extract (.t rfl) rfl) (congrArg I zE)) ?_)
    refine cons (opv (Ev.assign (.t rfl)) ?_)
    refine cons (opv (Ev.assign (.t rfl)) ?_)
    refine nil ?_
    refine pN ?_
    refine seq ?_
    refine region ?_
    rw [zU]
    refine cons (opv (Ev.move (.t rfl)) ?_)
    refine cons (opv (Ev.eql_i (.t rfl) (.c (v := I 3) rfl)) ?_)
    refine cons (opv (Ev.move (.t rfl)) ?_)
    refine cons (opg rfl rfl (Ev.move (.t rfl)) ?_)
    refine cons (opg rfl rfl (Ev.len Try.underlying27 (.g rfl id) (by first | exact isSl_own (by repeat first | exact mH | apply mT | apply mA) | exact fun w I => IsSl.keep0 (by assumption) I.keeps)) ?_)
    refine cons (opg rfl rfl (Ev.eql_i (.g rfl id) (.c (v := I 0) rfl)) ?_)
    refine cons (opv (Ev.pickA (.t rfl) (fun {_} h => by cases h; rfl) ⟨_, rfl⟩ (by intro h1 h; first | (rw [h] <;> rfl) | (rw [h1, h] <;> rfl) | (rw [h, h1] <;> rfl) | simp_all) (.c (v := .bool false) rfl)) ?_)
    refine cons (opv (Ev.assign (.t rfl)) ?_)
    refine nil ?_
    refine pN ?_
    refine ret ?_
    refine done rfl (.tmp rfl .nil) (retE ?_)
    rfl
end Go.Proofs.Ytegcihhhighipaa
