/- packet -/
import Derived.Test.YtegcihhhighipaaP22
set_option linter.unusedVariables false
set_option linter.unusedSimpArgs false
namespace Go.Proofs.Ytegcihhhighipaa
open Go Go.Gx

theorem same_self (h : SHeader) (o p : OV) (x : List UInt8) : sameB (wD h o) (wD h p) x x = true := by
  unfold sameB
  simp [wD]
theorem readU_le (b : List UInt8) : (readU b).length ≤ 2048 := by
  unfold readU
  split
  · exact readD_len b (by assumption)
  · simp

theorem en20 : Enters Try.prog 20 := Enters.mk' (by kernel_rfl)

theorem en27 : Enters Try.prog 27 := Enters.mk' (by kernel_rfl)

theorem en52 : Enters Try.prog 52 := Enters.mk' (by kernel_rfl)

theorem readlaw_ok (v : Value) (b : List UInt8) (w : World) (hb : IsSl u8E w v b) (hl : b.length ≤ 140737488351232) : Calls Try.prog 24 #[v] w (RetV w (.bool true)) := by
  have hru := readU_le b
  refine enter0 129 Try.func24 rfl rfl (Nat.le_of_ble_eq_true rfl) ?_
  refine seq ?_
  refine region ?_
  refine cons (opv (Ev.assign (.c (v := .bool false) rfl)) ?_)
  refine nil ?_
  refine pN ?_
  refine seq ?_
  refine region ?_
  refine cons (opv (Ev.move (.t rfl)) ?_)
  refine cons (calln (X := OV) (fun _ => True) (fun o => (OV.sub u8E.size o 0 b.length).v) (fun o => [OwnS o.v u8E (b ++ marks) 5]) en11 (.cons (.t rfl) .nil) (fun w I => spare_ok _ _ w (hb.keep0 I.keeps) (by omega)) (fun in1 _ => ?_))
  refine cons (opv (Ev.assign (.t rfl)) ?_)
  refine nil ?_
  refine pN ?_
  refine seq ?_
  refine region ?_
  refine cons (opv (Ev.move (.t rfl)) ?_)
  refine cons (calln (X := OV) (fun _ : OV => True) (fun o => .tuple #[eHeader.val (wD (readH b) o), I (readN b), I (readE b)]) (fun o => [OwnS o.v u8E (readU b) 5]) en22 (.cons (.t rfl) .nil) (fun w I => read_u _ b w (isSl_spare (isSl_own (by repeat first | exact mH | apply mT | apply mA) w I))) (fun x1 _ => ?_))
  refine cons (opv (Ev.move (.t rfl)) ?_)
  refine cons (opv (Ev.extract (.t rfl) rfl) ?_)
  refine cons (opv (Ev.extract (.t rfl) rfl) ?_)
  refine cons (opv (Ev.extract (.t rfl) rfl) ?_)
  refine cons (alloc z29 (fun b1 => ?_))
  refine cons (storeV ty29 (Lens.id _) (.t rfl) (.t rfl) (by repeat first | exact Upd.head | apply Upd.tail | apply Upd.right) ?_)
  refine cons (opv (Ev.assign (.t rfl)) ?_)
  refine cons (opv (Ev.assign (.t rfl)) ?_)
  refine nil ?_
  refine pN ?_
  refine seq ?_
  refine region ?_
  refine cons (opv (Ev.move (.t rfl)) ?_)
  refine cons (calln (X := OV) (fun _ : OV => True) (fun o => .tuple #[eHeader.val (wD (readH b) o), I (readN b), I (readE b)]) (fun o => [OwnS o.v u8E (readU b) 5]) en22 (.cons (.t rfl) .nil) (fun w I => read_u _ b w (isSl_spare (isSl_own (by repeat first | exact mH | apply mT | apply mA) w I))) (fun x2 _ => ?_))
  refine cons (opv (Ev.move (.t rfl)) ?_)
  refine cons (opv (Ev.extract (.t rfl) rfl) ?_)
  refine cons (opv (Ev.extract (.t rfl) rfl) ?_)
  refine cons (opv (Ev.extract (.t rfl) rfl) ?_)
  refine cons (alloc z29 (fun b2 => ?_))
  refine cons (storeV ty29 (Lens.id _) (.t rfl) (.t rfl) (by repeat first | exact Upd.head | apply Upd.tail | apply Upd.right) ?_)
  refine cons (opv (Ev.assign (.t rfl)) ?_)
  refine cons (opv (Ev.assign (.t rfl)) ?_)
  refine nil ?_
  refine pN ?_
  refine seq ?_
  refine region ?_
  refine cons (opv (Ev.move (.t rfl)) ?_)
  refine cons (calln (X := OV) (fun _ : OV => True) (fun o => .tuple #[eHeader.val (wD (readH b) o), I (readN b), I (readE b)]) (fun o => [OwnS o.v u8E (readU b) 5]) en51 (.cons (.t rfl) .nil) (fun w I => rread_u _ b w (hb.keep0 I.keeps)) (fun x3 _ => ?_))
  refine cons (opv (Ev.move (.t rfl)) ?_)
  refine cons (opv (Ev.extract (.t rfl) rfl) ?_)
  refine cons (opv (Ev.extract (.t rfl) rfl) ?_)
  refine cons (opv (Ev.extract (.t rfl) rfl) ?_)
  refine cons (alloc z29 (fun b3 => ?_))
  refine cons (storeV ty29 (Lens.id _) (.t rfl) (.t rfl) (by repeat first | exact Upd.head | apply Upd.tail | apply Upd.right) ?_)
  refine cons (opv (Ev.assign (.t rfl)) ?_)
  refine cons (opv (Ev.assign (.t rfl)) ?_)
  refine nil ?_
  refine pN ?_
  refine seq ?_
  refine seq ?_
  refine region ?_
  refine cons (opv (Ev.move (.t rfl)) ?_)
  refine cons (opv (Ev.move (.t rfl)) ?_)
  refine cons (opv (Ev.neq_i (.t rfl) (.t rfl)) ?_)
  refine cons (opv (Ev.move (.t rfl)) ?_)
  refine cons (opg rfl rfl (Ev.move (.t rfl)) ?_)
  refine cons (opg rfl rfl (Ev.move (.t rfl)) ?_)
  refine cons (opg rfl rfl (Ev.neq_i (.g rfl id) (.g rfl id)) ?_)
  refine cons (opv (Ev.pickO (.t rfl) (.c (v := .bool true) rfl) (fun {_} h => by cases h; rfl) ⟨_, rfl⟩ (by intro h1 h; first | (rw [h] <;> rfl) | (rw [h1, h] <;> rfl) | (rw [h, h1] <;> rfl) | simp_all)) ?_)
  refine cons (opv (Ev.move (.t rfl)) ?_)
  refine cons (opg rfl rfl (Ev.move (.t rfl)) ?_)
  refine cons (opg rfl rfl (Ev.move (.t rfl)) ?_)
  refine cons (opg rfl rfl (Ev.neq_i (.g rfl id) (.g rfl id)) ?_)
  refine cons (opv (Ev.pickO (.t rfl) (.c (v := .bool true) rfl) (fun {_} h => by cases h; rfl) ⟨_, rfl⟩ (by intro h1 h; first | (rw [h] <;> rfl) | (rw [h1, h] <;> rfl) | (rw [h, h1] <;> rfl) | simp_all)) ?_)
  refine cons (opv (Ev.move (.t rfl)) ?_)
  refine cons (opg rfl rfl (Ev.move (.t rfl)) ?_)
  refine cons (opg rfl rfl (Ev.move (.t rfl)) ?_)
  refine cons (opg rfl rfl (Ev.neq_i (.g rfl id) (.g rfl id)) ?_)
  refine cons (opv (Ev.pickO (.t rfl) (.c (v := .bool true) rfl) (fun {_} h => by cases h; rfl) ⟨_, rfl⟩ (by intro h1 h; first | (rw [h] <;> rfl) | (rw [h1, h] <;> rfl) | (rw [h, h1] <;> rfl) | simp_all)) ?_)
  refine cons (opv (Ev.move (.t rfl)) ?_)
  refine cons (opg rfl rfl (Ev.load ty29 (.t rfl) (ptsVar (by repeat first | exact mH | apply mT | apply mA) (Lens.id _))) ?_)
  refine cons (opg rfl rfl (Ev.load ty29 (.t rfl) (ptsVar (by repeat first | exact mH | apply mT | apply mA) (Lens.id _))) ?_)
  refine cons (callg rfl rfl en20 (.cons (.g rfl id) (.cons (.g rfl id) .nil)) (fun hg w I => (same_self (readH b) x1 x3 (readU b)) ▸ rsame_ok (wD (readH b) x1) (wD (readH b) x3) (readU b) (readU b) w (isSl_own (by repeat first | exact mH | apply mT | apply mA) w I) (isSl_own (by repeat first | exact mH | apply mT | apply mA) w I)) ?_)
  refine cons (opg rfl rfl (Ev.not (.g rfl id)) ?_)
  refine cons (opv (Ev.pickO (.t rfl) (.c (v := .bool true) rfl) (fun {_} h => by cases h; rfl) ⟨_, rfl⟩ (by intro h1 h; first | (rw [h] <;> rfl) | (rw [h1, h] <;> rfl) | (rw [h, h1] <;> rfl) | simp_all)) ?_)
  refine cons (opv (Ev.move (.t rfl)) ?_)
  refine cons (opg rfl rfl (Ev.load ty29 (.t rfl) (ptsVar (by repeat first | exact mH | apply mT | apply mA) (Lens.id _))) ?_)
  refine cons (opg rfl rfl (Ev.load ty29 (.t rfl) (ptsVar (by repeat first | exact mH | apply mT | apply mA) (Lens.id _))) ?_)
  refine cons (callg rfl rfl en20 (.cons (.g rfl id) (.cons (.g rfl id) .nil)) (fun hg w I => (same_self (readH b) x2 x3 (readU b)) ▸ rsame_ok (wD (readH b) x2) (wD (readH b) x3) (readU b) (readU b) w (isSl_own (by repeat first | exact mH | apply mT | apply mA) w I) (isSl_own (by repeat first | exact mH | apply mT | apply mA) w I)) ?_)
  refine cons (opg rfl rfl (Ev.not (.g rfl id)) ?_)
  refine cons (opv (Ev.pickO (.t rfl) (.c (v := .bool true) rfl) (fun {_} h => by cases h; rfl) ⟨_, rfl⟩ (by intro h1 h; first | (rw [h] <;> rfl) | (rw [h1, h] <;> rfl) | (rw [h, h1] <;> rfl) | simp_all)) ?_)
  refine cons (opv (Ev.move (.t rfl)) ?_)
  refine cons (opg rfl rfl (Ev.move (.t rfl)) ?_)
  refine cons (opg rfl rfl (Ev.move (.t rfl)) ?_)
  refine cons (callg rfl rfl en15 (.cons (.g rfl id) (.cons (.g rfl id) .nil)) (fun hg w I => kept_ok _ _ b w (isSl_own (by repeat first | exact mH | apply mT | apply mA) w I) (hb.keep0 I.keeps) (by omega)) ?_)
  refine cons (opg rfl rfl (Ev.not (.g rfl id)) ?_)
  refine cons (opv (Ev.pickO (.t rfl) (.c (v := .bool true) rfl) (fun {_} h => by cases h; rfl) ⟨_, rfl⟩ (by intro h1 h; first | (rw [h] <;> rfl) | (rw [h1, h] <;> rfl) | (rw [h, h1] <;> rfl) | simp_all)) ?_)
  refine nil ?_
  refine pN ?_
  refine condF rfl (by simp) ?_
  refine skip ?_
  refine pN ?_
  refine seq ?_
  refine seq ?_
  refine region ?_
  refine cons (opv (Ev.assign (.c (v := I 0) rfl)) ?_)
  refine nil ?_
  refine pN ?_
  refine block ?_
  refine loop (X := Int × (List UInt8)) (fun x : Int × (List UInt8) => (0 ≤ x.1 ∧ x.1 ≤ x.2.length) ∧ (x.2.length = (readU b).length)) (fun x : Int × (List UInt8) => [(0, true, v), (3, true, (OV.sub u8E.size in1 0 b.length).v), (4, true, .pointer (some ⟨b1, 0, none⟩)), (7, true, .pointer (some ⟨b2, 0, none⟩)), (10, true, .pointer (some ⟨b3, 0, none⟩)), (13, true, I x.1)]) (fun x : Int × (List UInt8) => [Var b3 eHeader (wD (readH b) x3) 29, OwnS x3.v u8E (readU b) 5, Var b2 eHeader (wD (readH b) x2) 29, OwnS x2.v u8E (readU b) 5, Var b1 eHeader (wD (readH b) x1) 29, OwnS x1.v u8E x.2 5, OwnS in1.v u8E (b ++ marks) 5]) (fun x : Int × (List UInt8) => (x.2.length - x.1).toNat) (0, _) ⟨?_, ?_⟩ (by repeat first | exact Sub.nil | refine Sub.cons rfl ?_) (by repeat first | exact sR | exact sN | apply sC | apply sS | apply sA) (fun x hx => ?_)
  · omega
  · rfl
  obtain ⟨i, xs⟩ := x
  obtain ⟨hi, hxl⟩ : (0 ≤ i ∧ i ≤ xs.length) ∧ (xs.length = (readU b).length) := hx
  show Sat _ _ [(0, true, v), (3, true, (OV.sub u8E.size in1 0 b.length).v), (4, true, .pointer (some ⟨b1, 0, none⟩)), (7, true, .pointer (some ⟨b2, 0, none⟩)), (10, true, .pointer (some ⟨b3, 0, none⟩)), (13, true, I i)] [Var b3 eHeader (wD (readH b) x3) 29, OwnS x3.v u8E (readU b) 5, Var b2 eHeader (wD (readH b) x2) 29, OwnS x2.v u8E (readU b) 5, Var b1 eHeader (wD (readH b) x1) 29, OwnS x1.v u8E xs 5, OwnS in1.v u8E (b ++ marks) 5]
  refine seq ?_
  refine seq ?_
  refine region ?_
  refine cons (opv (Ev.move (.t rfl)) ?_)
  refine cons (opv (Ev.fieldAddr (o := 42) (.t rfl) (by kernel_rfl)) ?_)
  refine cons (opv (Ev.load ty27 (.t rfl) (ptsVar (by repeat first | exact mH | apply mT | apply mA) SHeader.l_data)) ?_)
  refine cons (opv (Ev.len Try.underlying27 (.t rfl) (by first | exact isSl_own (by repeat first | exact mH | apply mT | apply mA) | exact fun w I => IsSl.keep0 (by assumption) I.keeps)) ?_)
  refine cons (opv (Ev.lss_i (.t rfl) (.t rfl)) ?_)
  refine nil ?_
  refine pN ?_
  first | refine condD rfl (fun hlt => ?_) (fun hge => ?_) | refine cond rfl (fun hlt => ?_) (fun hge => ?_)
  · try simp only [Bool.and_eq_true, Bool.or_eq_true, Bool.or_eq_false_iff, Bool.and_eq_false_iff, Bool.not_eq_true', Bool.not_eq_false', decide_eq_true_eq, decide_eq_false_iff_not, Decidable.not_not] at hlt
    refine skip ?_
    refine pN ?_
    refine seq ?_
    refine block ?_
    refine drawR (.tail (.tail (.tail (.tail (.tail .head))))) (by kernel_rfl) ?_
    refine take 0 rfl (by kernel_rfl) (by kernel_rfl) (by kernel_rfl) (by repeat first | exact sR | exact sN | apply sC | apply sS | apply sA) (Ev.fieldAddr (o := 42) (.t rfl) (by kernel_rfl)) ?_
    refine take 1 rfl (by kernel_rfl) (by kernel_rfl) (by kernel_rfl) (by repeat first | exact sR | exact sN | apply sC | apply sS | apply sA) (Ev.load ty27 (.t rfl) (ptsVar (by repeat first | exact mH | apply mT | apply mA) SHeader.l_data)) ?_
    refine take 2 rfl (by kernel_rfl) (by kernel_rfl) (by kernel_rfl) (by repeat first | exact sR | exact sN | apply sC | apply sS | apply sA) (Ev.move (.t rfl)) ?_
    refine take 3 rfl (by kernel_rfl) (by kernel_rfl) (by kernel_rfl) (by repeat first | exact sR | exact sN | apply sC | apply sS | apply sA) (Ev.fieldAddr (o := 42) (.t rfl) (by kernel_rfl)) ?_
    refine take 4 rfl (by kernel_rfl) (by kernel_rfl) (by kernel_rfl) (by repeat first | exact sR | exact sN | apply sC | apply sS | apply sA) (Ev.load ty27 (.t rfl) (ptsVar (by repeat first | exact mH | apply mT | apply mA) SHeader.l_data)) ?_
    refine take 5 rfl (by kernel_rfl) (by kernel_rfl) (by kernel_rfl) (by repeat first | exact sR | exact sN | apply sC | apply sS | apply sA) (Ev.move (.t rfl)) ?_
    refine all [6] (by kernel_rfl) (by decide) (.cons rfl ?_ .nil)
    refine (opv (Ev.indexAddr Try.underlying27 ty5 (.t rfl) (.t rfl) (by first | exact isSl_own (by repeat first | exact mH | apply mT | apply mA) | exact fun w I => IsSl.keep0 (by assumption) I.keeps) (fun _ => by omega)) ?_)
    refine heldN_of (by repeat first | exact sR | exact sN | apply sC | apply sS | apply sA) ?_
    refine all [7] (by kernel_rfl) (by decide) (.cons rfl ?_ .nil)
    refine (opv (Ev.loadS0 ty5 (.t rfl) (by first | exact isSl_own (by repeat first | exact mH | apply mT | apply mA) | exact fun w I => IsSl.keep0 (by assumption) I.keeps) (fun _ => by omega)) ?_)
    refine heldN_of (by repeat first | exact sR | exact sN | apply sC | apply sS | apply sA) ?_
    refine all [8] (by kernel_rfl) (by decide) (.cons rfl ?_ .nil)
    refine (opv (Ev.compl_u8 (.t rfl)) ?_)
    refine heldN_of (by repeat first | exact sR | exact sN | apply sC | apply sS | apply sA) ?_
    refine all [9] (by kernel_rfl) (by decide) (.cons rfl ?_ .nil)
    refine (opv (Ev.indexAddr Try.underlying27 ty5 (.t rfl) (.t rfl) (by first | exact isSl_own (by repeat first | exact mH | apply mT | apply mA) | exact fun w I => IsSl.keep0 (by assumption) I.keeps) (fun _ => by omega)) ?_)
    refine heldN_of (by repeat first | exact sR | exact sN | apply sC | apply sS | apply sA) ?_
    refine all [10] (by kernel_rfl) (by decide) (.cons rfl ?_ .nil)
    refine (storeS0 ty5 (.t rfl) (.t rfl) (by repeat first | exact Upd.head | apply Upd.tail | apply Upd.right) (by omega) ?_)
    refine heldN_of (by repeat first | exact sR | exact sN | apply sC | apply sS | apply sA) ?_
    refine over (by kernel_rfl) ?_
    refine bN ?_
    refine pN ?_
    refine region ?_
    refine cons (opv (Ev.move (.t rfl)) ?_)
    refine cons (opv (Ev.add_i (.t rfl) (.c (v := I 1) rfl) (fun _ => by omega)) ?_)
    refine cons (opv (Ev.assign (.t rfl)) ?_)
    refine nil ?_
    refine pN ?_
    refine next (X := Int × (List UInt8)) (i + 1, _) ⟨?_, ?_⟩ ?_ (by repeat first | exact Sub.nil | refine Sub.cons rfl ?_) (by repeat first | exact sR | exact sN | apply sC | apply sS | apply sA)
    · try dsimp only
      rw [List.length_set]; omega
    · try dsimp only
      rw [List.length_set]; exact hxl
    · try dsimp only
      rw [List.length_set]; omega
  · try simp only [Bool.and_eq_true, Bool.or_eq_true, Bool.or_eq_false_iff, Bool.and_eq_false_iff, Bool.not_eq_true', Bool.not_eq_false', decide_eq_true_eq, decide_eq_false_iff_not, Decidable.not_not] at hge
    refine exit ?_
    refine pX ?_
    refine pX ?_
    refine bX ?_
    refine pN ?_
    refine seq ?_
    refine seq ?_
    refine region ?_
    refine cons (opv (Ev.assign (.c (v := I 0) rfl)) ?_)
    refine nil ?_
    refine pN ?_
    refine block ?_
    refine loop (X := Int × OV × (List UInt8)) (fun x : Int × OV × (List UInt8) => (0 ≤ x.1 ∧ x.1 ≤ 20) ∧ ((x.2.2.length : Int) = (readU b).length + x.1)) (fun x : Int × OV × (List UInt8) => [(0, true, v), (3, true, (OV.sub u8E.size in1 0 b.length).v), (4, true, .pointer (some ⟨b1, 0, none⟩)), (7, true, .pointer (some ⟨b2, 0, none⟩)), (10, true, .pointer (some ⟨b3, 0, none⟩)), (14, true, I x.1)]) (fun x : Int × OV × (List UInt8) => [Var b3 eHeader (wD (readH b) x3) 29, OwnS x3.v u8E (readU b) 5, Var b2 eHeader (wD (readH b) x2) 29, OwnS x2.v u8E (readU b) 5, Var b1 eHeader (wD (readH b) x.2.1) 29, OwnS x.2.1.v u8E x.2.2 5, OwnS in1.v u8E (b ++ marks) 5]) (fun x : Int × OV × (List UInt8) => (20 - x.1).toNat) (0, x1, xs) ⟨?_, ?_⟩ (by repeat first | exact Sub.nil | refine Sub.cons rfl ?_) (by repeat first | exact sR | exact sN | apply sC | apply sS | apply sA) (fun x hx => ?_)
    · omega
    · dsimp only
      omega
    obtain ⟨j, o, ys⟩ := x
    obtain ⟨hj, hyl⟩ : (0 ≤ j ∧ j ≤ 20) ∧ ((ys.length : Int) = (readU b).length + j) := hx
    show Sat _ _ [(0, true, v), (3, true, (OV.sub u8E.size in1 0 b.length).v), (4, true, .pointer (some ⟨b1, 0, none⟩)), (7, true, .pointer (some ⟨b2, 0, none⟩)), (10, true, .pointer (some ⟨b3, 0, none⟩)), (14, true, I j)] [Var b3 eHeader (wD (readH b) x3) 29, OwnS x3.v u8E (readU b) 5, Var b2 eHeader (wD (readH b) x2) 29, OwnS x2.v u8E (readU b) 5, Var b1 eHeader (wD (readH b) o) 29, OwnS o.v u8E ys 5, OwnS in1.v u8E (b ++ marks) 5]
    refine seq ?_
    refine seq ?_
    refine region ?_
    refine cons (opv (Ev.move (.t rfl)) ?_)
    refine cons (opv (Ev.lss_i (.t rfl) (.c (v := I 20) rfl)) ?_)
    refine nil ?_
    refine pN ?_
    first | refine condD rfl (fun hlt => ?_) (fun hge => ?_) | refine cond rfl (fun hlt => ?_) (fun hge => ?_)
    · try simp only [Bool.and_eq_true, Bool.or_eq_true, Bool.or_eq_false_iff, Bool.and_eq_false_iff, Bool.not_eq_true', Bool.not_eq_false', decide_eq_true_eq, decide_eq_false_iff_not, Decidable.not_not] at hlt
      refine skip ?_
      refine pN ?_
      refine seq ?_
      refine block ?_
      refine region ?_
      refine cons (opv (Ev.fieldAddr (o := 42) (.t rfl) (by kernel_rfl)) ?_)
      refine cons (opv (Ev.load ty27 (.t rfl) (ptsVar (by repeat first | exact mH | apply mT | apply mA) SHeader.l_data)) ?_)
      refine cons (buildSlice (E := u8E) Try.underlying27 ty5 z5 (.cons (.c (v := U8 7) rfl) .nil) rfl rfl (fun v4 => ?_))
      refine cons (append (E := u8E) Try.underlying27 ty5 rfl zb5 zs5 (.t rfl) (.t rfl) (fun _ => by repeat first | exact Upd.head | apply Upd.tail | apply Upd.right) (by first | exact isSl_own (by repeat first | exact mH | apply mT | apply mA) | exact fun w I => IsSl.keep0 (by assumption) I.keeps) (⟨by (show _ ≤ 9223372036854775807); first | omega | (simp; done) | (simp; omega), by first | omega | (simp; done) | (simp; omega)⟩) (fun v5 => ?_))
      refine cons (opv (Ev.fieldAddr (o := 42) (.t rfl) (by kernel_rfl)) ?_)
      refine cons (storeV ty27 SHeader.l_data (.t rfl) (.t rfl) (by repeat first | exact Upd.head | apply Upd.tail | apply Upd.right) ?_)
      refine nil ?_
      refine bN ?_
      refine pN ?_
      refine region ?_
      refine cons (opv (Ev.move (.t rfl)) ?_)
      refine cons (opv (Ev.add_i (.t rfl) (.c (v := I 1) rfl) (fun _ => by omega)) ?_)
      refine cons (opv (Ev.assign (.t rfl)) ?_)
      refine nil ?_
      refine pN ?_
      refine next (X := Int × OV × (List UInt8)) (j + 1, _, _) ⟨?_, ?_⟩ ?_ (by repeat first | exact Sub.nil | refine Sub.cons rfl ?_) (by repeat first | exact sR | exact sN | apply sC | apply sS | apply sA)
      · try dsimp only
        omega
      · try dsimp only
        simp; omega
      · try dsimp only
        omega
    · try simp only [Bool.and_eq_true, Bool.or_eq_true, Bool.or_eq_false_iff, Bool.and_eq_false_iff, Bool.not_eq_true', Bool.not_eq_false', decide_eq_true_eq, decide_eq_false_iff_not, Decidable.not_not] at hge
      refine exit ?_
      refine pX ?_
      refine pX ?_
      refine bX ?_
      refine pN ?_
      refine seq ?_
      refine region ?_
      refine cons (opv (Ev.move (.t rfl)) ?_)
      refine cons (calln (X := OV) (fun _ : OV => True) (fun o => .tuple #[o.v, I (olderE b)]) (fun o => [OwnS o.v u8E (olderU b) 5]) en27 (.cons (.t rfl) .nil) (fun w I => older_u _ b w (isSl_spare (isSl_own (by repeat first | exact mH | apply mT | apply mA) w I))) (fun x4 _ => ?_))
      refine cons (opv (Ev.move (.t rfl)) ?_)
      refine cons (opv (Ev.extract (.t rfl) rfl) ?_)
      refine cons (opv (Ev.extract (.t rfl) rfl) ?_)
      refine cons (opv (Ev.assign (.t rfl)) ?_)
      refine cons (opv (Ev.assign (.t rfl)) ?_)
      refine nil ?_
      refine pN ?_
      refine seq ?_
      refine region ?_
      refine cons (opv (Ev.move (.t rfl)) ?_)
      refine cons (calln (X := OV) (fun _ : OV => True) (fun o => .tuple #[o.v, I (olderE b)]) (fun o => [OwnS o.v u8E (olderU b) 5]) en52 (.cons (.t rfl) .nil) (fun w I => rolder_u _ b w (hb.keep0 I.keeps)) (fun x5 _ => ?_))
      refine cons (opv (Ev.move (.t rfl)) ?_)
      refine cons (opv (Ev.extract (.t rfl) rfl) ?_)
      refine cons (opv (Ev.extract (.t rfl) rfl) ?_)
      refine cons (opv (Ev.assign (.t rfl)) ?_)
      refine cons (opv (Ev.assign (.t rfl)) ?_)
      refine nil ?_
      refine pN ?_
      refine seq ?_
      refine region ?_
      refine cons (opv (Ev.move (.t rfl)) ?_)
      refine cons (opv (Ev.move (.t rfl)) ?_)
      refine cons (opv (Ev.eql_i (.t rfl) (.t rfl)) ?_)
      refine cons (opv (Ev.move (.t rfl)) ?_)
      refine cons (opg rfl rfl (Ev.move (.t rfl)) ?_)
      refine cons (opg rfl rfl (Ev.move (.t rfl)) ?_)
      refine cons (callg rfl rfl en18 (.cons (.g rfl id) (.cons (.g rfl id) .nil)) (fun hg w I => sameBytes_ok _ _ (olderU b) (olderU b) w (isSl_own (by repeat first | exact mH | apply mT | apply mA) w I) (isSl_own (by repeat first | exact mH | apply mT | apply mA) w I)) ?_)
      refine cons (opv (Ev.pickA (.t rfl) (fun {_} h => by cases h; rfl) ⟨_, rfl⟩ (by intro h1 h; first | (rw [h] <;> rfl) | (rw [h1, h] <;> rfl) | (rw [h, h1] <;> rfl) | simp_all) (.c (v := .bool false) rfl)) ?_)
      refine cons (opv (Ev.move (.t rfl)) ?_)
      refine cons (opg rfl rfl (Ev.load ty29 (.t rfl) (ptsVar (by repeat first | exact mH | apply mT | apply mA) (Lens.id _))) ?_)
      refine cons (opg rfl rfl (Ev.load ty29 (.t rfl) (ptsVar (by repeat first | exact mH | apply mT | apply mA) (Lens.id _))) ?_)
      refine cons (callg rfl rfl en20 (.cons (.g rfl id) (.cons (.g rfl id) .nil)) (fun hg w I => (same_self (readH b) x2 x3 (readU b)) ▸ rsame_ok (wD (readH b) x2) (wD (readH b) x3) (readU b) (readU b) w (isSl_own (by repeat first | exact mH | apply mT | apply mA) w I) (isSl_own (by repeat first | exact mH | apply mT | apply mA) w I)) ?_)
      refine cons (opv (Ev.pickA (.t rfl) (fun {_} h => by cases h; rfl) ⟨_, rfl⟩ (by intro h1 h; first | (rw [h] <;> rfl) | (rw [h1, h] <;> rfl) | (rw [h, h1] <;> rfl) | simp_all) (.c (v := .bool false) rfl)) ?_)
      refine cons (opv (Ev.move (.t rfl)) ?_)
      refine cons (opg rfl rfl (Ev.move (.t rfl)) ?_)
      refine cons (opg rfl rfl (Ev.move (.t rfl)) ?_)
      refine cons (callg rfl rfl en15 (.cons (.g rfl id) (.cons (.g rfl id) .nil)) (fun hg w I => kept_ok _ _ b w (isSl_own (by repeat first | exact mH | apply mT | apply mA) w I) (hb.keep0 I.keeps) (by omega)) ?_)
      refine cons (opv (Ev.pickA (.t rfl) (fun {_} h => by cases h; rfl) ⟨_, rfl⟩ (by intro h1 h; first | (rw [h] <;> rfl) | (rw [h1, h] <;> rfl) | (rw [h, h1] <;> rfl) | simp_all) (.c (v := .bool false) rfl)) ?_)
      refine cons (opv (Ev.assign (.t rfl)) ?_)
      refine nil ?_
      refine pN ?_
      refine ret ?_
      refine done rfl (.tmp rfl .nil) (retE ?_)
      simp

theorem en24 : Enters Try.prog 24 := Enters.mk' (by kernel_rfl)

theorem PacketReads_walk (v : Value) (b : List UInt8) (w : World) (hb : IsSl u8E w v b) (hl : b.length ≤ 140737488351232) : Calls Try.prog 7 #[v] w (RetV w (.bool true)) := by
  refine enter0 8 Try.func7 rfl rfl (Nat.le_of_ble_eq_true rfl) ?_
  refine seq ?_
  refine region ?_
  refine cons (opv (Ev.assign (.c (v := .bool false) rfl)) ?_)
  refine nil ?_
  refine pN ?_
  refine seq ?_
  refine region ?_
  refine cons (opv (Ev.move (.t rfl)) ?_)
  refine cons (callv en24 (.cons (.t rfl) .nil) (fun w I => readlaw_ok _ b w (hb.keep0 I.keeps) (by omega)) ?_)
  refine cons (opv (Ev.move (.t rfl)) ?_)
  refine cons (callg rfl rfl en16 .nil (fun hg w I => works_ok w) ?_)
  refine cons (opv (Ev.pickA (.t rfl) (fun {_} h => by cases h; rfl) ⟨_, rfl⟩ (by intro h1 h; first | (rw [h] <;> rfl) | (rw [h1, h] <;> rfl) | (rw [h, h1] <;> rfl) | simp_all) (.c (v := .bool false) rfl)) ?_)
  refine cons (opv (Ev.assign (.t rfl)) ?_)
  refine nil ?_
  refine pN ?_
  refine ret ?_
  refine done rfl (.tmp rfl .nil) (retE ?_)
  rfl
end Go.Proofs.Ytegcihhhighipaa
