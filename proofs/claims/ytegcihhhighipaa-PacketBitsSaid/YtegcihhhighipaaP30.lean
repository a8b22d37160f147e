/- packet -/
import Derived.Test.YtegcihhhighipaaP29
set_option linter.unusedVariables false
set_option linter.unusedSimpArgs false
namespace Go.Proofs.Ytegcihhhighipaa
open Go Go.Gx

theorem readU_make (h : SHeader) (d t : List UInt8) (hc : checkH h d.length = 0) : readU (makeB h d ++ t) = d := by
  obtain ⟨h1, _, h2, _⟩ := read_make h d t hc
  unfold readU
  rw [if_pos h1, h2]
theorem read_nil (h : SHeader) (d : List UInt8) (hc : checkH h d.length = 0) : readE (makeB h d) = 0 ∧ readN (makeB h d) = (makeB h d).length ∧ readU (makeB h d) = d ∧ readH (makeB h d) = wD h nilSl := by
  have h1 := read_make h d [] hc
  have h2 := readU_make h d [] hc
  rw [List.append_nil] at h1 h2
  exact ⟨h1.1, h1.2.1, h2, h1.2.2.2⟩
theorem short_all (h : SHeader) (d : List UInt8) (i : Nat) (hc : checkH h d.length = 0) (hi : i < (makeB h d).length) : readE ((makeB h d).take i) = 160 ∧ readN ((makeB h d).take i) = 0 ∧ readU ((makeB h d).take i) = [] ∧ readH ((makeB h d).take i) = eHeader.zero := by
  have h1 := read_short h d i hc hi
  have h2 : ¬ readE ((makeB h d).take i) = 0 := by rw [h1]; decide
  refine ⟨h1, ?_, ?_, ?_⟩
  · unfold readN; rw [if_neg h2]
  · unfold readU; rw [if_neg h2]
  · unfold readH; rw [if_neg h2]
theorem same_zero (o : OV) : sameB (wD eHeader.zero o) eHeader.zero [] [] = true := by
  unfold sameB
  simp [wD]

theorem PacketBack_walk (h : SHeader) (v : Value) (d t : List UInt8) (w : World) (hd : IsSl u8E w h.data.v d) (ht : IsSl u8E w v t) (hl : t.length ≤ 140737488351232) : Calls Try.prog 5 #[eHeader.val h, v] w (RetV w (.bool true)) := by
  have hc := fit_check h d
  obtain ⟨rE, rN, rU, rH⟩ := read_nil (fitH h) (fitD h d) hc
  have hml := makeB_le (fitH h) (fitD h d) hc
  have hfd := checkH_len (fitH h) _ hc
  have mU : makeU (fitH h) (fitD h d) = makeB (fitH h) (fitD h d) := if_pos hc
  have tU := readU_make (fitH h) (fitD h d) t hc
  obtain ⟨tE, tN, _, tH⟩ := read_make (fitH h) (fitD h d) t hc
  have htl := ht.le
  refine enter0 107 Try.func5 rfl rfl (Nat.le_of_ble_eq_true rfl) ?_
  refine seq ?_
  refine region ?_
  refine cons (box (E := eHeader) (.t rfl) (fun b1 => ?_))
  refine cons (opv (Ev.assign (.c (v := .bool false) rfl)) ?_)
  refine nil ?_
  refine pN ?_
  refine seq ?_
  refine seq ?_
  refine region ?_
  refine cons (callv en16 .nil (fun w I => works_ok w) ?_)
  refine cons (opv (Ev.not (.t rfl)) ?_)
  refine nil ?_
  refine pN ?_
  refine condF rfl (rfl) ?_
  refine skip ?_
  refine pN ?_
  refine seq ?_
  refine region ?_
  refine cons (opv (Ev.load ty29 (.t rfl) (ptsVar (by repeat first | exact mH | apply mT | apply mA) (Lens.id _))) ?_)
  refine cons (calln (X := OV) (fun _ : OV => True) (fun o => eHeader.val (wD (fitH h) o)) (fun o => [OwnS o.v u8E (fitD h d) 5]) en21 (.cons (.t rfl) .nil) (fun w I => rfit_ok h d w (hd.keep0 I.keeps)) (fun x1 _ => ?_))
  refine cons (storeV ty29 (Lens.id _) (.t rfl) (.t rfl) (by repeat first | exact Upd.head | apply Upd.tail | apply Upd.right) ?_)
  refine nil ?_
  refine pN ?_
  refine seq ?_
  refine region ?_
  refine cons (opv (Ev.load ty29 (.t rfl) (ptsVar (by repeat first | exact mH | apply mT | apply mA) (Lens.id _))) ?_)
  refine cons (calln (X := OV) (fun _ : OV => True) (fun o => .tuple #[o.v, I (checkH (fitH h) ((fitD h d)).length)]) (fun o => [OwnS o.v u8E (makeU (fitH h) (fitD h d)) 5]) en13 (.cons (.t rfl) .nil) (fun w I => make_u (wD (fitH h) x1) (fitD h d) w (isSl_own (by repeat first | exact mH | apply mT | apply mA) w I) (by omega)) (fun x2 _ => ?_))
  refine cons (opv (Ev.move (.t rfl)) ?_)
  refine cons (opv (Ev.extract (.t rfl) rfl) ?_)
  refine cons (opv (Ev.to (v' := I 0) (Ev.extract (.t rfl) rfl) (congrArg I hc)) ?_)
  refine cons (opv (Ev.assign (.t rfl)) ?_)
  refine cons (opv (Ev.assign (.t rfl)) ?_)
  refine nil ?_
  refine pN ?_
  refine seq ?_
  refine seq ?_
  refine region ?_
  rw [mU]
  refine cons (opv (Ev.move (.t rfl)) ?_)
  refine cons (opv (Ev.neq_i (.t rfl) (.c (v := I 0) rfl)) ?_)
  refine nil ?_
  refine pN ?_
  refine condF rfl (by simp) ?_
  refine skip ?_
  refine pN ?_
  refine seq ?_
  refine region ?_
  refine cons (opv (Ev.move (.t rfl)) ?_)
  refine cons (calln (X := OV) (fun _ : OV => True) (fun o => .tuple #[eHeader.val (wD (readH (makeB (fitH h) (fitD h d))) o), I (readN (makeB (fitH h) (fitD h d))), I (readE (makeB (fitH h) (fitD h d)))]) (fun o => [OwnS o.v u8E (readU (makeB (fitH h) (fitD h d))) 5]) en22 (.cons (.t rfl) .nil) (fun w I => read_u _ (makeB (fitH h) (fitD h d)) w (isSl_own (by repeat first | exact mH | apply mT | apply mA) w I)) (fun x3 _ => ?_))
  refine cons (opv (Ev.move (.t rfl)) ?_)
  refine cons (opv (Ev.to (v' := eHeader.val (wD (fitH h) x3)) (Ev.extract (.t rfl) rfl) (by rw [rH]; rfl)) ?_)
  refine cons (opv (Ev.to (v' := I ((makeB (fitH h) (fitD h d)).length : Int)) (Ev.extract (.t rfl) rfl) (congrArg I rN)) ?_)
  refine cons (opv (Ev.to (v' := I 0) (Ev.extract (.t rfl) rfl) (congrArg I rE)) ?_)
  refine cons (alloc z29 (fun b2 => ?_))
  refine cons (storeV ty29 (Lens.id _) (.t rfl) (.t rfl) (by repeat first | exact Upd.head | apply Upd.tail | apply Upd.right) ?_)
  refine cons (opv (Ev.assign (.t rfl)) ?_)
  refine cons (opv (Ev.assign (.t rfl)) ?_)
  refine nil ?_
  refine pN ?_
  refine seq ?_
  refine seq ?_
  refine region ?_
  rw [rU]
  refine cons (opv (Ev.move (.t rfl)) ?_)
  refine cons (opv (Ev.neq_i (.t rfl) (.c (v := I 0) rfl)) ?_)
  refine cons (opv (Ev.move (.t rfl)) ?_)
  refine cons (opg rfl rfl (Ev.move (.t rfl)) ?_)
  refine cons (opg rfl rfl (Ev.move (.t rfl)) ?_)
  refine cons (opg rfl rfl (Ev.len Try.underlying27 (.g rfl id) (by first | exact isSl_own (by repeat first | exact mH | apply mT | apply mA) | exact fun w I => IsSl.keep0 (by assumption) I.keeps)) ?_)
  refine cons (opg rfl rfl (Ev.neq_i (.g rfl id) (.g rfl id)) ?_)
  refine cons (opv (Ev.pickO (.t rfl) (.c (v := .bool true) rfl) (fun {_} h => by cases h; rfl) ⟨_, rfl⟩ (by intro h1 h; first | (rw [h] <;> rfl) | (rw [h1, h] <;> rfl) | (rw [h, h1] <;> rfl) | simp_all)) ?_)
  refine cons (opv (Ev.move (.t rfl)) ?_)
  refine cons (opg rfl rfl (Ev.load ty29 (.t rfl) (ptsVar (by repeat first | exact mH | apply mT | apply mA) (Lens.id _))) ?_)
  refine cons (opg rfl rfl (Ev.load ty29 (.t rfl) (ptsVar (by repeat first | exact mH | apply mT | apply mA) (Lens.id _))) ?_)
  refine cons (callg rfl rfl en19 (.cons (.g rfl id) (.cons (.g rfl id) .nil)) (fun hg w I => (same_self (fitH h) x1 x3 (fitD h d)) ▸ same_ok (wD (fitH h) x1) (wD (fitH h) x3) (fitD h d) (fitD h d) w (isSl_own (by repeat first | exact mH | apply mT | apply mA) w I) (isSl_own (by repeat first | exact mH | apply mT | apply mA) w I)) ?_)
  refine cons (opg rfl rfl (Ev.not (.g rfl id)) ?_)
  refine cons (opv (Ev.pickO (.t rfl) (.c (v := .bool true) rfl) (fun {_} h => by cases h; rfl) ⟨_, rfl⟩ (by intro h1 h; first | (rw [h] <;> rfl) | (rw [h1, h] <;> rfl) | (rw [h, h1] <;> rfl) | simp_all)) ?_)
  refine nil ?_
  refine pN ?_
  refine condF rfl (by simp) ?_
  refine skip ?_
  refine pN ?_
  refine seq ?_
  refine region ?_
  refine cons (opv (Ev.assign (.c (v := (Go.Value.slice none 0 0)) rfl)) ?_)
  refine takeNil u8E 5 ?_
  refine nil ?_
  refine pN ?_
  refine seq ?_
  refine region ?_
  refine cons (opv (Ev.move (.t rfl)) ?_)
  refine cons (opv (Ev.move (.t rfl)) ?_)
  refine cons (append (E := u8E) Try.underlying27 ty5 rfl zb5 zs5 (.t rfl) (.t rfl) (fun _ => by repeat first | exact Upd.head | apply Upd.tail | apply Upd.right) (by first | exact isSl_own (by repeat first | exact mH | apply mT | apply mA) | exact fun w I => IsSl.keep0 (by assumption) I.keeps) (⟨by (show _ ≤ 9223372036854775807); first | omega | (simp; done) | (simp; omega), by first | omega | (simp; done) | (simp; omega)⟩) (fun v3 => ?_))
  refine cons (opv (Ev.move (.t rfl)) ?_)
  refine cons (append (E := u8E) Try.underlying27 ty5 rfl zb5 zs5 (.t rfl) (.t rfl) (fun _ => by repeat first | exact Upd.head | apply Upd.tail | apply Upd.right) (by first | exact isSl_own (by repeat first | exact mH | apply mT | apply mA) | exact fun w I => IsSl.keep0 (by assumption) I.keeps) (⟨by (show _ ≤ 9223372036854775807); first | omega | (simp; done) | (simp; omega), by first | omega | (simp; done) | (simp; omega)⟩) (fun v4 => ?_))
  refine cons (opv (Ev.assign (.t rfl)) ?_)
  refine nil ?_
  refine pN ?_
  refine seq ?_
  refine region ?_
  refine cons (opv (Ev.move (.t rfl)) ?_)
  refine cons (calln (X := OV) (fun _ : OV => True) (fun o => .tuple #[eHeader.val (wD (readH ((makeB (fitH h) (fitD h d)) ++ t)) o), I (readN ((makeB (fitH h) (fitD h d)) ++ t)), I (readE ((makeB (fitH h) (fitD h d)) ++ t))]) (fun o => [OwnS o.v u8E (readU ((makeB (fitH h) (fitD h d)) ++ t)) 5]) en22 (.cons (.t rfl) .nil) (fun w I => read_u _ ((makeB (fitH h) (fitD h d)) ++ t) w (isSl_own (by repeat first | exact mH | apply mT | apply mA) w I)) (fun x4 _ => ?_))
  refine cons (opv (Ev.move (.t rfl)) ?_)
  refine cons (opv (Ev.to (v' := eHeader.val (wD (fitH h) x4)) (Ev.extract (.t rfl) rfl) (by rw [tH]; rfl)) ?_)
  refine cons (opv (Ev.to (v' := I ((makeB (fitH h) (fitD h d)).length : Int)) (Ev.extract (.t rfl) rfl) (congrArg I tN)) ?_)
  refine cons (opv (Ev.to (v' := I 0) (Ev.extract (.t rfl) rfl) (congrArg I tE)) ?_)
  refine cons (storeV ty29 (Lens.id _) (.t rfl) (.t rfl) (by repeat first | exact Upd.head | apply Upd.tail | apply Upd.right) ?_)
  refine cons (opv (Ev.assign (.t rfl)) ?_)
  refine cons (opv (Ev.assign (.t rfl)) ?_)
  refine nil ?_
  refine pN ?_
  refine seq ?_
  refine seq ?_
  refine region ?_
  rw [tU]
  refine cons (opv (Ev.move (.t rfl)) ?_)
  refine cons (opv (Ev.neq_i (.t rfl) (.c (v := I 0) rfl)) ?_)
  refine cons (opv (Ev.move (.t rfl)) ?_)
  refine cons (opg rfl rfl (Ev.move (.t rfl)) ?_)
  refine cons (opg rfl rfl (Ev.move (.t rfl)) ?_)
  refine cons (opg rfl rfl (Ev.len Try.underlying27 (.g rfl id) (by first | exact isSl_own (by repeat first | exact mH | apply mT | apply mA) | exact fun w I => IsSl.keep0 (by assumption) I.keeps)) ?_)
  refine cons (opg rfl rfl (Ev.neq_i (.g rfl id) (.g rfl id)) ?_)
  refine cons (opv (Ev.pickO (.t rfl) (.c (v := .bool true) rfl) (fun {_} h => by cases h; rfl) ⟨_, rfl⟩ (by intro h1 h; first | (rw [h] <;> rfl) | (rw [h1, h] <;> rfl) | (rw [h, h1] <;> rfl) | simp_all)) ?_)
  refine cons (opv (Ev.move (.t rfl)) ?_)
  refine cons (opg rfl rfl (Ev.load ty29 (.t rfl) (ptsVar (by repeat first | exact mH | apply mT | apply mA) (Lens.id _))) ?_)
  refine cons (opg rfl rfl (Ev.load ty29 (.t rfl) (ptsVar (by repeat first | exact mH | apply mT | apply mA) (Lens.id _))) ?_)
  refine cons (callg rfl rfl en19 (.cons (.g rfl id) (.cons (.g rfl id) .nil)) (fun hg w I => (same_self (fitH h) x1 x4 (fitD h d)) ▸ same_ok (wD (fitH h) x1) (wD (fitH h) x4) (fitD h d) (fitD h d) w (isSl_own (by repeat first | exact mH | apply mT | apply mA) w I) (isSl_own (by repeat first | exact mH | apply mT | apply mA) w I)) ?_)
  refine cons (opg rfl rfl (Ev.not (.g rfl id)) ?_)
  refine cons (opv (Ev.pickO (.t rfl) (.c (v := .bool true) rfl) (fun {_} h => by cases h; rfl) ⟨_, rfl⟩ (by intro h1 h; first | (rw [h] <;> rfl) | (rw [h1, h] <;> rfl) | (rw [h, h1] <;> rfl) | simp_all)) ?_)
  refine nil ?_
  refine pN ?_
  refine condF rfl (by simp) ?_
  refine skip ?_
  refine pN ?_
  refine seq ?_
  refine region ?_
  refine cons (opv (Ev.load ty29 (.t rfl) (ptsVar (by repeat first | exact mH | apply mT | apply mA) (Lens.id _))) ?_)
  refine cons (calln (X := OV) (fun _ : OV => True) (fun o => .tuple #[o.v, I (checkH (fitH h) ((fitD h d)).length)]) (fun o => [OwnS o.v u8E (makeU (fitH h) (fitD h d)) 5]) en13 (.cons (.t rfl) .nil) (fun w I => make_u (wD (fitH h) x4) (fitD h d) w (isSl_own (by repeat first | exact mH | apply mT | apply mA) w I) (by omega)) (fun x5 _ => ?_))
  refine cons (opv (Ev.move (.t rfl)) ?_)
  refine cons (opv (Ev.extract (.t rfl) rfl) ?_)
  refine cons (opv (Ev.to (v' := I 0) (Ev.extract (.t rfl) rfl) (congrArg I hc)) ?_)
  refine cons (opv (Ev.assign (.t rfl)) ?_)
  refine cons (opv (Ev.assign (.t rfl)) ?_)
  refine nil ?_
  refine pN ?_
  refine seq ?_
  refine seq ?_
  refine region ?_
  rw [mU]
  refine cons (opv (Ev.move (.t rfl)) ?_)
  refine cons (opv (Ev.neq_i (.t rfl) (.c (v := I 0) rfl)) ?_)
  refine cons (opv (Ev.move (.t rfl)) ?_)
  refine cons (opg rfl rfl (Ev.move (.t rfl)) ?_)
  refine cons (opg rfl rfl (Ev.move (.t rfl)) ?_)
  refine cons (callg rfl rfl en18 (.cons (.g rfl id) (.cons (.g rfl id) .nil)) (fun hg w I => sameBytes_ok _ _ (makeB (fitH h) (fitD h d)) (makeB (fitH h) (fitD h d)) w (isSl_own (by repeat first | exact mH | apply mT | apply mA) w I) (isSl_own (by repeat first | exact mH | apply mT | apply mA) w I)) ?_)
  refine cons (opg rfl rfl (Ev.not (.g rfl id)) ?_)
  refine cons (opv (Ev.pickO (.t rfl) (.c (v := .bool true) rfl) (fun {_} h => by cases h; rfl) ⟨_, rfl⟩ (by intro h1 h; first | (rw [h] <;> rfl) | (rw [h1, h] <;> rfl) | (rw [h, h1] <;> rfl) | simp_all)) ?_)
  refine nil ?_
  refine pN ?_
  refine condF rfl (by simp) ?_
  refine skip ?_
  refine pN ?_
  refine seq ?_
  refine seq ?_
  refine region ?_
  refine cons (opv (Ev.assign (.c (v := I 0) rfl)) ?_)
  refine nil ?_
  refine pN ?_
  refine block ?_
  refine loop (X := Int × SHeader) (fun x : Int × SHeader => (0 ≤ x.1 ∧ x.1 ≤ (makeB (fitH h) (fitD h d)).length)) (fun x : Int × SHeader => [(2, true, .pointer (some ⟨b1, 0, none⟩)), (5, true, x2.v), (7, true, .pointer (some ⟨b2, 0, none⟩)), (11, true, I x.1)]) (fun x : Int × SHeader => [Var b2 eHeader x.2 29, OwnS x2.v u8E (makeB (fitH h) (fitD h d)) 5, OwnS x1.v u8E (fitD h d) 5, Var b1 eHeader (wD (fitH h) x1) 29]) (fun x : Int × SHeader => ((makeB (fitH h) (fitD h d)).length - x.1).toNat) (0, _) ?_ (by repeat first | exact Sub.nil | refine Sub.cons rfl ?_) (by repeat first | exact sR | exact sN | apply sC | apply sS | apply sA) (fun x hx => ?_)
  · omega
  obtain ⟨i, y⟩ := x
  have hi : 0 ≤ i ∧ i ≤ (makeB (fitH h) (fitD h d)).length := hx
  clear hx
  show Sat _ _ [(2, true, .pointer (some ⟨b1, 0, none⟩)), (5, true, x2.v), (7, true, .pointer (some ⟨b2, 0, none⟩)), (11, true, I i)] [Var b2 eHeader y 29, OwnS x2.v u8E (makeB (fitH h) (fitD h d)) 5, OwnS x1.v u8E (fitD h d) 5, Var b1 eHeader (wD (fitH h) x1) 29]
  refine seq ?_
  refine seq ?_
  refine region ?_
  refine cons (opv (Ev.move (.t rfl)) ?_)
  refine cons (opv (Ev.move (.t rfl)) ?_)
  refine cons (opv (Ev.len Try.underlying27 (.t rfl) (by first | exact isSl_own (by repeat first | exact mH | apply mT | apply mA) | exact fun w I => IsSl.keep0 (by assumption) I.keeps)) ?_)
  refine cons (opv (Ev.lss_i (.t rfl) (.t rfl)) ?_)
  refine nil ?_
  refine pN ?_
  first | refine condD rfl (fun hlt => ?_) (fun hge => ?_) | refine cond rfl (fun hlt => ?_) (fun hge => ?_)
  · try simp only [Bool.and_eq_true, Bool.or_eq_true, Bool.or_eq_false_iff, Bool.and_eq_false_iff, Bool.not_eq_true', Bool.not_eq_false', decide_eq_true_eq, decide_eq_false_iff_not, Decidable.not_not] at hlt
    refine skip ?_
    refine pN ?_
    refine seq ?_
    refine block ?_
    refine seq ?_
    refine region ?_
    obtain ⟨sE, sN, sU, sH⟩ := short_all (fitH h) (fitD h d) i.toNat hc (by omega)
    refine cons (opv (Ev.move (.t rfl)) ?_)
    refine cons (opv (Ev.move (.t rfl)) ?_)
    refine cons (opv (Ev.sliceH Try.underlying27 ty5 (.t rfl) (.t rfl) (by first | exact isSl_own (by repeat first | exact mH | apply mT | apply mA) | exact fun w I => IsSl.keep0 (by assumption) I.keeps) (fun _ => by omega)) ?_)
    refine cons (calln (X := OV) (fun _ : OV => True) (fun o => .tuple #[eHeader.val (wD (readH ((makeB (fitH h) (fitD h d)).take i.toNat)) o), I (readN ((makeB (fitH h) (fitD h d)).take i.toNat)), I (readE ((makeB (fitH h) (fitD h d)).take i.toNat))]) (fun o => [OwnS o.v u8E (readU ((makeB (fitH h) (fitD h d)).take i.toNat)) 5]) en22 (.cons (.t rfl) .nil) (fun w I => read_u _ ((makeB (fitH h) (fitD h d)).take i.toNat) w (IsSl.sub (isSl_own (by repeat first | exact mH | apply mT | apply mA) w I) (by omega) (by omega))) (fun x6 _ => ?_))
    refine cons (opv (Ev.move (.t rfl)) ?_)
    refine cons (opv (Ev.to (v' := eHeader.val (wD eHeader.zero x6)) (Ev.extract (.t rfl) rfl) (by rw [sH])) ?_)
    refine cons (opv (Ev.to (v' := I 0) (Ev.extract (.t rfl) rfl) (congrArg I sN)) ?_)
    refine cons (opv (Ev.to (v' := I 160) (Ev.extract (.t rfl) rfl) (congrArg I sE)) ?_)
    refine cons (storeV ty29 (Lens.id _) (.t rfl) (.t rfl) (by repeat first | exact Upd.head | apply Upd.tail | apply Upd.right) ?_)
    refine cons (opv (Ev.assign (.t rfl)) ?_)
    refine cons (opv (Ev.assign (.t rfl)) ?_)
    refine nil ?_
    refine pN ?_
    refine seq ?_
    refine region ?_
    rw [sU]
    refine cons (opv (Ev.move (.t rfl)) ?_)
    refine cons (opv (Ev.neq_i (.t rfl) (.c (v := I 160) rfl)) ?_)
    refine cons (opv (Ev.move (.t rfl)) ?_)
    refine cons (opg rfl rfl (Ev.move (.t rfl)) ?_)
    refine cons (opg rfl rfl (Ev.neq_i (.g rfl id) (.c (v := I 0) rfl)) ?_)
    refine cons (opv (Ev.pickO (.t rfl) (.c (v := .bool true) rfl) (fun {_} h => by cases h; rfl) ⟨_, rfl⟩ (by intro h1 h; first | (rw [h] <;> rfl) | (rw [h1, h] <;> rfl) | (rw [h, h1] <;> rfl) | simp_all)) ?_)
    refine cons (opv (Ev.move (.t rfl)) ?_)
    refine cons (opg rfl rfl (Ev.load ty29 (.t rfl) (ptsVar (by repeat first | exact mH | apply mT | apply mA) (Lens.id _))) ?_)
    refine cons (opg rfl rfl (Ev.buildS (fs := _) (places := [(0, 17), (17, 17), (34, 1), (35, 1), (36, 1), (37, 1), (38, 1), (39, 1), (40, 1), (41, 1), (42, 1)]) z29 rfl Try.underlying29 (by kernel_rfl) .nil Fills.nil) ?_)
    refine cons (callg rfl rfl en19 (.cons (.g rfl id) (.cons (.g rfl id) .nil)) (fun hg w I => (same_zero x6) ▸ same_ok (wD eHeader.zero x6) eHeader.zero [] [] w (isSl_own (by repeat first | exact mH | apply mT | apply mA) w I) (IsSl.nil _ w)) ?_)
    refine cons (opg rfl rfl (Ev.not (.g rfl id)) ?_)
    refine cons (opv (Ev.pickO (.t rfl) (.c (v := .bool true) rfl) (fun {_} h => by cases h; rfl) ⟨_, rfl⟩ (by intro h1 h; first | (rw [h] <;> rfl) | (rw [h1, h] <;> rfl) | (rw [h, h1] <;> rfl) | simp_all)) ?_)
    refine nil ?_
    refine pN ?_
    refine condF rfl (by simp) ?_
    refine skip ?_
    refine bN ?_
    refine pN ?_
    refine region ?_
    refine cons (opv (Ev.move (.t rfl)) ?_)
    refine cons (opv (Ev.add_i (.t rfl) (.c (v := I 1) rfl) (fun _ => by omega)) ?_)
    refine cons (opv (Ev.assign (.t rfl)) ?_)
    refine nil ?_
    refine pN ?_
    refine next (X := Int × SHeader) (i + 1, _) ?_ ?_ (by repeat first | exact Sub.nil | refine Sub.cons rfl ?_) (by repeat first | exact sR | exact sN | apply sC | apply sS | apply sA)
    · try dsimp only
      omega
    · try dsimp only
      omega
  · try simp only [Bool.and_eq_true, Bool.or_eq_true, Bool.or_eq_false_iff, Bool.and_eq_false_iff, Bool.not_eq_true', Bool.not_eq_false', decide_eq_true_eq, decide_eq_false_iff_not, Decidable.not_not] at hge
    refine exit ?_
    refine pX ?_
    refine pX ?_
    refine bX ?_
    refine pN ?_
    refine seq ?_
    refine region ?_
    refine cons (opv (Ev.assign (.c (v := .bool true) rfl)) ?_)
    refine nil ?_
    refine pN ?_
    refine ret ?_
    refine done rfl (.tmp rfl .nil) (retE ?_)
    rfl
end Go.Proofs.Ytegcihhhighipaa
