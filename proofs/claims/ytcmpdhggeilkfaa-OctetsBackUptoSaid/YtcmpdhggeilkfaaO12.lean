/- octets -/
import Derived.Test.YtcmpdhggeilkfaaO11
import Derived.Test.YtcmpdhggeilkfaaGxI
set_option linter.unusedVariables false
set_option linter.unusedSimpArgs false
namespace Go.Proofs.Ytcmpdhggeilkfaa
open Go Go.Gx

/-- The widths of the five numbers that are put. -/
def wid (i : Nat) : Nat := ([1, 2, 4, 8, 2] : List Nat).getD i 0
theorem wid_val (i : Int) (h0 : 0 ≤ i) (h1 : i < 5) : iE.val (([1, 2, 4, 8, 2] : List Int).getD i.toNat iE.zero) = I ((wid i.toNat : Nat) : Int) := by
  have h : i.toNat = 0 ∨ i.toNat = 1 ∨ i.toNat = 2 ∨ i.toNat = 3 ∨ i.toNat = 4 := by omega
  rcases h with h | h | h | h | h <;> rw [h] <;> rfl
theorem wid_le (i : Nat) (h : i < 5) : 1 ≤ wid i ∧ wid i ≤ 8 := by
  have h : i = 0 ∨ i = 1 ∨ i = 2 ∨ i = 3 ∨ i = 4 := by omega
  rcases h with h | h | h | h | h <;> rw [h] <;> decide
theorem putB_congr : ∀ (n : Nat) (v u : UInt64), v.toNat % 256 ^ n = u.toNat % 256 ^ n → putB n v = putB n u
  | 0, _, _, _ => rfl
  | n + 1, v, u, h => by
    have hp : 0 < 256 ^ n := Nat.pow_pos (by decide)
    have h1 : v.toNat % 256 ^ n = u.toNat % 256 ^ n := by
      have e1 := Nat.mod_mul_right_mod v.toNat (256 ^ n) 256
      have e2 := Nat.mod_mul_right_mod u.toNat (256 ^ n) 256
      rw [← Nat.pow_succ] at e1 e2
      rw [← e1, ← e2, h]
    have h2 : v.toNat / 256 ^ n % 256 = u.toNat / 256 ^ n % 256 := by
      have e1 := Nat.mod_mul_right_div_self v.toNat (256 ^ n) 256
      have e2 := Nat.mod_mul_right_div_self u.toNat (256 ^ n) 256
      rw [← Nat.pow_succ] at e1 e2
      rw [← e1, ← e2, h]
    unfold putB
    rw [putB_congr n v u h1]
    congr 1
    apply UInt8.toNat_inj.1
    rw [UInt64.toNat_toUInt8, UInt64.toNat_toUInt8, toNat_shr64, toNat_shr64, Nat.pow_mul]
    exact h2
theorem putB_1 (v : UInt64) : putB 1 v.toUInt8.toUInt64 = putB 1 v := putB_congr 1 _ _ (by simp)
theorem putB_2 (v : UInt64) : putB 2 v.toUInt16.toUInt64 = putB 2 v := putB_congr 2 _ _ (by simp)
theorem putB_4 (v : UInt64) : putB 4 v.toUInt32.toUInt64 = putB 4 v := putB_congr 4 _ _ (by simp)
theorem one_shl (n : Nat) (h : n < 8) : (shl64 1 (8 * (n : Int)).toNat).toNat = 256 ^ n := by
  have e : (8 * (n : Int)).toNat = 8 * n := by omega
  rw [toNat_shl64, e, Nat.pow_mul]
  have h2 : (2 ^ 8) ^ n ≤ (2 ^ 8) ^ 7 := Nat.pow_le_pow_right (by decide) (by omega)
  have e1 : UInt64.toNat 1 = 1 := rfl
  rw [e1, Nat.one_mul, Nat.mod_eq_of_lt (by omega)]
theorem one_shl_ne (n : Nat) (h : n < 8) : shl64 1 (8 * (n : Int)).toNat ≠ 0 := fun e => by
  have h1 := one_shl n h
  rw [e] at h1
  have hp : 0 < 256 ^ n := Nat.pow_pos (by decide)
  have h0 : UInt64.toNat 0 = 0 := rfl
  omega
theorem low_put (n : Nat) (v : UInt64) (h : n < 8) : putB n (v % shl64 1 (8 * (n : Int)).toNat) = putB n v := putB_congr n _ _ (by
  rw [UInt64.toNat_mod, one_shl n h, Nat.mod_mod])
theorem getD_mem {α : Type} (l : List α) (i : Nat) (d : α) (h : i < l.length) : l.getD i d ∈ l := by simp [List.getD, h]
theorem take_set {α : Type} (l : List α) (k : Nat) (x : α) (h : k < l.length) : (l.set k x).take (k + 1) = l.take k ++ [x] := by
  rw [List.take_succ_eq_append_getElem (by simpa using h), List.take_set_of_le (Nat.le_refl _)]
  simp
theorem set_other {α : Type} (l : List α) (k i : Nat) (x d : α) (h : k ≠ i) : (l.set i x).getD k d = l.getD k d := by
  simp [List.getD, List.getElem?_set, Ne.symm h]
theorem set_same {α : Type} (l : List α) (i : Nat) (x d : α) (h : i < l.length) : (l.set i x).getD i d = x := by
  simp [List.getD, h]

theorem en12 : Enters Try.prog 12 := Enters.mk' (by kernel_rfl)

theorem en13 : Enters Try.prog 13 := Enters.mk' (by kernel_rfl)

theorem en15 : Enters Try.prog 15 := Enters.mk' (by kernel_rfl)

theorem en16 : Enters Try.prog 16 := Enters.mk' (by kernel_rfl)

theorem en17 : Enters Try.prog 17 := Enters.mk' (by kernel_rfl)

theorem ty3 : TyOK Try.prog 3 iE := TyOK.mk' (by kernel_rfl) (by kernel_rfl)

theorem z3 : (Try.prog.info? 3).bind (·.zero) = some (iE.val iE.zero) := by kernel_rfl

theorem en20 : Enters Try.prog 20 := Enters.mk' (by kernel_rfl)

theorem en19 : Enters Try.prog 19 := Enters.mk' (by kernel_rfl)

theorem en21 : Enters Try.prog 21 := Enters.mk' (by kernel_rfl)

theorem OctetsPuts_walk (u : OV) (b : List UInt8) (v : UInt64) (w : World) (hb : IsSl u8E w u.v b) (hl : b.length ≤ 140737488351232) : Calls Try.prog 3 #[u.v, U64 v] w (RetV w (.bool true)) := by
  have hbl := hb.le
  refine enter0 148 Try.func3 rfl rfl (Nat.le_of_ble_eq_true rfl) ?_
  refine seq ?_
  refine region ?_
  refine cons (opv (Ev.assign (.c (v := .bool false) rfl)) ?_)
  refine nil ?_
  refine pN ?_
  refine seq ?_
  refine region ?_
  refine cons (opv (Ev.move (.t rfl)) ?_)
  refine cons (calln (X := OV) (fun _ => True) (fun o => subS u8E.size o.v 0 b.length) (fun o => [OwnS o.v u8E (b ++ marks) 5]) en12 (.cons (.t rfl) .nil) (fun w I => spare_ok _ _ w (hb.keep0 I.keeps) (by omega)) (fun in1 _ => ?_))
  refine cons (opv (Ev.assign (.t rfl)) ?_)
  refine nil ?_
  refine pN ?_
  refine seq ?_
  refine region ?_
  refine cons (opv (Ev.move (.t rfl)) ?_)
  refine cons (opv (Ev.move (.t rfl)) ?_)
  refine cons (opv (Ev.conv_u64_u8 Try.underlying5 Try.underlying23 (.t rfl)) ?_)
  refine cons (callo en13 (.cons (.t rfl) (.cons (.t rfl) .nil)) (fun w I => put_uint8_ok _ _ _ w (IsSl.head (isSl_own (E := u8E) (T := 5) (xs := b ++ marks) (v := in1.v) (by repeat first | exact List.Mem.head _ | apply List.Mem.tail | exact List.mem_append_right _ (List.Mem.head _)) w I)) (by first | assumption | omega | (simp [putB_length]; done) | (simp [putB_length]; omega))) (fun v1 => ?_))
  refine cons (opv (Ev.move (.t rfl)) ?_)
  refine cons (opv (Ev.move (.t rfl)) ?_)
  refine cons (opv (Ev.conv_u64_u16 Try.underlying27 Try.underlying23 (.t rfl)) ?_)
  refine cons (callo en14 (.cons (.t rfl) (.cons (.t rfl) .nil)) (fun w I => put_uint16_ok _ _ _ w (IsSl.head (isSl_own (E := u8E) (T := 5) (xs := b ++ marks) (v := in1.v) (by repeat first | exact List.Mem.head _ | apply List.Mem.tail | exact List.mem_append_right _ (List.Mem.head _)) w I)) (by first | assumption | omega | (simp [putB_length]; done) | (simp [putB_length]; omega))) (fun v2 => ?_))
  refine cons (opv (Ev.move (.t rfl)) ?_)
  refine cons (opv (Ev.move (.t rfl)) ?_)
  refine cons (opv (Ev.conv_u64_u32 Try.underlying29 Try.underlying23 (.t rfl)) ?_)
  refine cons (callo en15 (.cons (.t rfl) (.cons (.t rfl) .nil)) (fun w I => put_uint32_ok _ _ _ w (IsSl.head (isSl_own (E := u8E) (T := 5) (xs := b ++ marks) (v := in1.v) (by repeat first | exact List.Mem.head _ | apply List.Mem.tail | exact List.mem_append_right _ (List.Mem.head _)) w I)) (by first | assumption | omega | (simp [putB_length]; done) | (simp [putB_length]; omega))) (fun v3 => ?_))
  refine cons (opv (Ev.move (.t rfl)) ?_)
  refine cons (opv (Ev.move (.t rfl)) ?_)
  refine cons (callo en16 (.cons (.t rfl) (.cons (.t rfl) .nil)) (fun w I => put_uint64_ok _ _ _ w (IsSl.head (isSl_own (E := u8E) (T := 5) (xs := b ++ marks) (v := in1.v) (by repeat first | exact List.Mem.head _ | apply List.Mem.tail | exact List.mem_append_right _ (List.Mem.head _)) w I)) (by first | assumption | omega | (simp [putB_length]; done) | (simp [putB_length]; omega))) (fun v4 => ?_))
  refine cons (opv (Ev.move (.t rfl)) ?_)
  refine cons (opv (Ev.move (.t rfl)) ?_)
  refine cons (opv (Ev.conv_u64_u16 Try.underlying32 Try.underlying23 (.t rfl)) ?_)
  refine cons (callo en17 (.cons (.t rfl) (.cons (.t rfl) .nil)) (fun w I => put_own_ok _ _ _ w (IsSl.head (isSl_own (E := u8E) (T := 5) (xs := b ++ marks) (v := in1.v) (by repeat first | exact List.Mem.head _ | apply List.Mem.tail | exact List.mem_append_right _ (List.Mem.head _)) w I)) (by first | assumption | omega | (simp [putB_length]; done) | (simp [putB_length]; omega))) (fun v5 => ?_))
  refine cons (opv (Ev.assign (.t rfl)) ?_)
  refine cons (opv (Ev.assign (.t rfl)) ?_)
  refine cons (opv (Ev.assign (.t rfl)) ?_)
  refine cons (opv (Ev.assign (.t rfl)) ?_)
  refine cons (opv (Ev.assign (.t rfl)) ?_)
  refine nil ?_
  refine pN ?_
  refine seq ?_
  refine region ?_
  refine cons (opv (Ev.move (.t rfl)) ?_)
  refine cons (opv (Ev.move (.t rfl)) ?_)
  refine cons (opv (Ev.move (.t rfl)) ?_)
  refine cons (opv (Ev.move (.t rfl)) ?_)
  refine cons (opv (Ev.move (.t rfl)) ?_)
  refine cons (buildSlice (E := (ovE nilSl)) Try.underlying33 ty22 z22 (.cons (.t rfl) (.cons (.t rfl) (.cons (.t rfl) (.cons (.t rfl) (.cons (.t rfl) .nil))))) rfl rfl (fun v6 => ?_))
  refine cons (opv (Ev.assign (.t rfl)) ?_)
  refine nil ?_
  refine pN ?_
  refine seq ?_
  refine region ?_
  refine cons (buildSlice (E := iE) Try.underlying34 ty3 z3 (.cons (.c (v := I 1) rfl) (.cons (.c (v := I 2) rfl) (.cons (.c (v := I 4) rfl) (.cons (.c (v := I 8) rfl) (.cons (.c (v := I 2) rfl) .nil))))) rfl rfl (fun v7 => ?_))
  refine cons (opv (Ev.assign (.t rfl)) ?_)
  refine nil ?_
  refine pN ?_
  refine seq ?_
  refine seq ?_
  refine region ?_
  refine cons (opv (Ev.assign (.c (v := I 0) rfl)) ?_)
  refine nil ?_
  refine pN ?_
  refine block ?_
  refine loop (X := Int × (List OV) × (List (List UInt8))) (fun x : Int × (List OV) × (List (List UInt8)) => (0 ≤ x.1 ∧ x.1 ≤ 5) ∧ (x.2.1.length = 5) ∧ (x.2.2.length = 5) ∧ (∀ k, k < 5 → x.2.2.getD k [] = b ++ putB (wid k) v)) (fun x : Int × (List OV) × (List (List UInt8)) => [(0, true, u.v), (1, true, U64 v), (5, true, subS u8E.size in1.v 0 b.length), (11, true, v6.v), (12, true, v7.v), (13, true, I x.1)]) (fun x : Int × (List OV) × (List (List UInt8)) => (OwnS v7.v iE [1, 2, 4, 8, 2] 3 :: OwnS v6.v (ovE nilSl) x.2.1 22 :: (rowsR u8E 5 x.2.1 x.2.2 ++ [OwnS in1.v u8E (b ++ marks) 5]))) (fun x : Int × (List OV) × (List (List UInt8)) => (5 - x.1).toNat) (0, [v1, v2, v3, v4, v5], [b ++ putB 1 v.toUInt8.toUInt64, b ++ putB 2 v.toUInt16.toUInt64, b ++ putB 4 v.toUInt32.toUInt64, b ++ putB 8 v, b ++ putB 2 v.toUInt16.toUInt64]) ⟨?_, ?_, ?_, ?_⟩ (by repeat first | exact Sub.nil | refine Sub.cons rfl ?_) (by repeat first | exact List.Sublist.refl _ | apply List.Sublist.cons_cons | apply List.Sublist.cons) (fun x hx => ?_)
  · omega
  · rfl
  · rfl
  · intro k hk
    have h : k = 0 ∨ k = 1 ∨ k = 2 ∨ k = 3 ∨ k = 4 := by omega
    rcases h with h | h | h | h | h <;> subst h
    · exact congrArg (b ++ ·) (putB_1 v)
    · exact congrArg (b ++ ·) (putB_2 v)
    · exact congrArg (b ++ ·) (putB_4 v)
    · rfl
    · exact congrArg (b ++ ·) (putB_2 v)
  obtain ⟨i, os, xss⟩ := x
  obtain ⟨hi, ho, hx, hX⟩ : (0 ≤ i ∧ i ≤ 5) ∧ (os.length = 5) ∧ (xss.length = 5) ∧ (∀ k, k < 5 → xss.getD k [] = b ++ putB (wid k) v) := hx
  show Sat _ _ [(0, true, u.v), (1, true, U64 v), (5, true, subS u8E.size in1.v 0 b.length), (11, true, v6.v), (12, true, v7.v), (13, true, I i)] (OwnS v7.v iE [1, 2, 4, 8, 2] 3 :: OwnS v6.v (ovE nilSl) os 22 :: (rowsR u8E 5 os xss ++ [OwnS in1.v u8E (b ++ marks) 5]))
  refine seq ?_
  refine seq ?_
  refine region ?_
  refine cons (opv (Ev.move (.t rfl)) ?_)
  refine cons (opv (Ev.move (.t rfl)) ?_)
  refine cons (opv (Ev.len Try.underlying33 (.t rfl) (by first | exact isSl_own (by repeat first | exact List.Mem.head _ | apply List.Mem.tail) | exact fun w I => IsSl.keep0 (by assumption) I.keeps)) ?_)
  refine cons (opv (Ev.lss_i (.t rfl) (.t rfl)) ?_)
  refine nil ?_
  refine pN ?_
  first | refine condD rfl (fun hlt => ?_) (fun hge => ?_) | refine cond rfl (fun hlt => ?_) (fun hge => ?_)
  · try simp only [Bool.and_eq_true, Bool.or_eq_true, Bool.or_eq_false_iff, Bool.and_eq_false_iff, Bool.not_eq_true', Bool.not_eq_false', decide_eq_true_eq, decide_eq_false_iff_not, Decidable.not_not] at hlt
    refine skip ?_
    refine pN ?_
    refine seq ?_
    refine block ?_
    refine seq ?_
    refine region ?_
    have hwl := wid_le i.toNat (by omega)
    refine cons (opv (Ev.move (.t rfl)) ?_)
    refine cons (opv (Ev.move (.t rfl)) ?_)
    refine cons (opv (Ev.indexAddr Try.underlying34 ty3 (.t rfl) (.t rfl) (by first | exact isSl_own (by repeat first | exact List.Mem.head _ | apply List.Mem.tail) | exact fun w I => IsSl.keep0 (by assumption) I.keeps) (fun _ => by (try simp); omega)) ?_)
    refine cons (opv (Ev.to (v' := I ((wid i.toNat : Nat) : Int)) (Ev.loadS0 ty3 (.t rfl) (by first | exact isSl_own (by repeat first | exact List.Mem.head _ | apply List.Mem.tail) | exact fun w I => IsSl.keep0 (by assumption) I.keeps) (fun _ => by (try simp); omega)) (wid_val i hi.1 (by omega))) ?_)
    refine cons (opv (Ev.assign (.t rfl)) ?_)
    refine nil ?_
    refine pN ?_
    refine seq ?_
    refine region ?_
    refine cons (opv (Ev.move (.t rfl)) ?_)
    refine cons (opv (Ev.assign (.t rfl)) ?_)
    refine nil ?_
    refine pN ?_
    refine cut (X := UInt64) (fun x : UInt64 => (putB (wid i.toNat) x = putB (wid i.toNat) v)) (fun x : UInt64 => [(0, true, u.v), (1, true, U64 v), (5, true, subS u8E.size in1.v 0 b.length), (11, true, v6.v), (12, true, v7.v), (13, true, I i), (14, true, I ((wid i.toNat : Nat) : Int)), (15, true, U64 x)]) (fun x : UInt64 => (OwnS v7.v iE [1, 2, 4, 8, 2] 3 :: OwnS v6.v (ovE nilSl) os 22 :: (rowsR u8E 5 os xss ++ [OwnS in1.v u8E (b ++ marks) 5]))) ?_ (fun x hx => ?_)
    · refine seq ?_
      refine region ?_
      refine cons (opv (Ev.move (.t rfl)) ?_)
      refine cons (opv (Ev.lss_i (.t rfl) (.c (v := I 8) rfl)) ?_)
      refine nil ?_
      refine pN ?_
      first | refine condD rfl (fun hw8 => ?_) (fun hw9 => ?_) | refine cond rfl (fun hw8 => ?_) (fun hw9 => ?_)
      · try simp only [Bool.and_eq_true, Bool.or_eq_true, Bool.or_eq_false_iff, Bool.and_eq_false_iff, Bool.not_eq_true', Bool.not_eq_false', decide_eq_true_eq, decide_eq_false_iff_not, Decidable.not_not] at hw8
        refine region ?_
        refine cons (opv (Ev.move (.t rfl)) ?_)
        refine cons (opv (Ev.move (.t rfl)) ?_)
        refine cons (opv (Ev.mul_i (.c (v := I 8) rfl) (.t rfl) (fun _ => by omega)) ?_)
        refine cons (opv (Ev.shl_u64 (.c (v := U64 1) rfl) (.t rfl) (fun _ => by omega)) ?_)
        refine cons (opv (Ev.rem_u64 (.t rfl) (.t rfl) (fun _ => one_shl_ne _ (by omega))) ?_)
        refine cons (opv (Ev.assign (.t rfl)) ?_)
        refine nil ?_
        refine pN ?_
        refine meet (X := UInt64) (_) ?_ (by repeat first | exact Sub.nil | refine Sub.cons rfl ?_) (by repeat first | exact List.Sublist.refl _ | apply List.Sublist.cons_cons | apply List.Sublist.cons)
        · try dsimp only
          all_goals (first | exact low_put _ _ (Int.ofNat_lt.1 hw8) | rfl)
      · try simp only [Bool.and_eq_true, Bool.or_eq_true, Bool.or_eq_false_iff, Bool.and_eq_false_iff, Bool.not_eq_true', Bool.not_eq_false', decide_eq_true_eq, decide_eq_false_iff_not, Decidable.not_not] at hw9
        refine skip ?_
        refine pN ?_
        refine meet (X := UInt64) (_) ?_ (by repeat first | exact Sub.nil | refine Sub.cons rfl ?_) (by repeat first | exact List.Sublist.refl _ | apply List.Sublist.cons_cons | apply List.Sublist.cons)
        · try dsimp only
          all_goals (first | exact low_put _ _ (Int.ofNat_lt.1 hw8) | rfl)
    obtain ⟨low, rfl⟩ : ∃ y, y = x := ⟨x, rfl⟩
    have hlow : putB (wid i.toNat) low = putB (wid i.toNat) v := hx
    clear hx
    show Sat _ _ [(0, true, u.v), (1, true, U64 v), (5, true, subS u8E.size in1.v 0 b.length), (11, true, v6.v), (12, true, v7.v), (13, true, I i), (14, true, I ((wid i.toNat : Nat) : Int)), (15, true, U64 low)] (OwnS v7.v iE [1, 2, 4, 8, 2] 3 :: OwnS v6.v (ovE nilSl) os 22 :: (rowsR u8E 5 os xss ++ [OwnS in1.v u8E (b ++ marks) 5]))
    refine seq ?_
    refine draw' (by kernel_rfl) ?_
    have hXi := hX i.toNat (by omega)
    refine take 0 rfl (by kernel_rfl) (by kernel_rfl) (by kernel_rfl) (by repeat first | exact List.Sublist.refl _ | apply List.Sublist.cons_cons | apply List.Sublist.cons) (Ev.move (.t rfl)) ?_
    refine take 1 rfl (by kernel_rfl) (by kernel_rfl) (by kernel_rfl) (by repeat first | exact List.Sublist.refl _ | apply List.Sublist.cons_cons | apply List.Sublist.cons) (Ev.move (.t rfl)) ?_
    refine take 2 rfl (by kernel_rfl) (by kernel_rfl) (by kernel_rfl) (by repeat first | exact List.Sublist.refl _ | apply List.Sublist.cons_cons | apply List.Sublist.cons) (Ev.indexAddr Try.underlying33 ty22 (.t rfl) (.t rfl) (by first | exact isSl_own (by repeat first | exact List.Mem.head _ | apply List.Mem.tail) | exact fun w I => IsSl.keep0 (by assumption) I.keeps) (fun _ => by omega)) ?_
    refine take 3 rfl (by kernel_rfl) (by kernel_rfl) (by kernel_rfl) (by repeat first | exact List.Sublist.refl _ | apply List.Sublist.cons_cons | apply List.Sublist.cons) (Ev.loadS0 ty22 (.t rfl) (by first | exact isSl_own (by repeat first | exact List.Mem.head _ | apply List.Mem.tail) | exact fun w I => IsSl.keep0 (by assumption) I.keeps) (fun _ => by omega)) ?_
    refine take 4 rfl (by kernel_rfl) (by kernel_rfl) (by kernel_rfl) (by repeat first | exact List.Sublist.refl _ | apply List.Sublist.cons_cons | apply List.Sublist.cons) (Ev.move (.t rfl)) ?_
    refine take 5 rfl (by kernel_rfl) (by kernel_rfl) (by kernel_rfl) (by repeat first | exact List.Sublist.refl _ | apply List.Sublist.cons_cons | apply List.Sublist.cons) (Ev.move (.t rfl)) ?_
    refine take 6 rfl (by kernel_rfl) (by kernel_rfl) (by kernel_rfl) (by repeat first | exact List.Sublist.refl _ | apply List.Sublist.cons_cons | apply List.Sublist.cons) (Ev.move (.t rfl)) ?_
    refine all [7] (by kernel_rfl) (by decide) (.cons rfl ?_ .nil)
    refine (callo en20 (.cons (.t rfl) (.cons (.t rfl) .nil)) (fun w I => bytes_ok _ _ w (by omega)) (fun v8 => ?_))
    refine heldN_of (by repeat first | exact List.Sublist.refl _ | apply List.Sublist.cons_cons | apply List.Sublist.cons) ?_
    refine all [8] (by kernel_rfl) (by decide) (.cons rfl ?_ .nil)
    refine (buildSlice (E := (ovE nilSl)) Try.underlying33 ty22 z22 (.cons (.t rfl) (.cons (.t rfl) .nil)) rfl rfl (fun v9 => ?_))
    refine heldN_of (by repeat first | exact List.Sublist.refl _ | apply List.Sublist.cons_cons | apply List.Sublist.cons) ?_
    refine all [9] (by kernel_rfl) (by decide) (.cons rfl ?_ .nil)
    refine (callo en19 (.cons (.t rfl) .nil) (fun w I => join_ok _ [b, putB (wid i.toNat) low] w (IsSS.mk' (isSl_own (by repeat first | exact List.Mem.head _ | apply List.Mem.tail) w I) (.cons (hb.keep0 I.keeps) (.cons (isSl_own (by repeat first | exact List.Mem.head _ | apply List.Mem.tail) w I) .nil))) (by simp [putB_length]; omega)) (fun v10 => ?_))
    refine heldN_of (by repeat first | exact List.Sublist.refl _ | apply List.Sublist.cons_cons | apply List.Sublist.cons) ?_
    refine all [10] (by kernel_rfl) (by decide) (.cons rfl ?_ .nil)
    refine (callv en18 (.cons (.t rfl) (.cons (.t rfl) .nil)) (fun w I => sameBytes_ok _ _ _ _ w (isSl_rows' (E := u8E) (T := 5) (os := os) (xss := xss) (i := i.toNat) hXi (by omega) (by omega) (fun r hr => by repeat first | exact List.mem_append_left _ hr | apply List.Mem.tail) w I) (by first | exact isSl_own (by repeat first | exact List.Mem.head _ | apply List.Mem.tail) w I | exact IsSl.keep0 (by assumption) I.keeps)) ?_)
    refine heldN_of (by repeat first | exact List.Sublist.refl _ | apply List.Sublist.cons_cons | apply List.Sublist.cons) ?_
    refine take 11 rfl (by kernel_rfl) (by kernel_rfl) (by kernel_rfl) (by repeat first | exact List.Sublist.refl _ | apply List.Sublist.cons_cons | apply List.Sublist.cons) (Ev.not (.t rfl)) ?_
    refine over (by kernel_rfl) ?_
    refine pN ?_
    first | refine condD rfl (fun h2 => ?_) (fun h2 => ?_) | refine cond rfl (fun h2 => ?_) (fun h2 => ?_)
    · exfalso
      simp [hlow] at h2
    · refine skip ?_
      refine bN ?_
      refine pN ?_
      refine region ?_
      refine cons (opv (Ev.move (.t rfl)) ?_)
      refine cons (opv (Ev.add_i (.t rfl) (.c (v := I 1) rfl) (fun _ => by omega)) ?_)
      refine cons (opv (Ev.assign (.t rfl)) ?_)
      refine nil ?_
      refine pN ?_
      refine next (X := Int × (List OV) × (List (List UInt8))) (i + 1, _, _) ⟨?_, ?_, ?_, ?_⟩ ?_ (by repeat first | exact Sub.nil | refine Sub.cons rfl ?_) (by repeat first | exact List.Sublist.refl _ | apply List.Sublist.cons_cons | apply List.Sublist.cons)
      · try dsimp only
        omega
      · try dsimp only
        exact ho
      · try dsimp only
        exact hx
      · try dsimp only
        exact hX
      · try dsimp only
        omega
  · try simp only [Bool.and_eq_true, Bool.or_eq_true, Bool.or_eq_false_iff, Bool.and_eq_false_iff, Bool.not_eq_true', Bool.not_eq_false', decide_eq_true_eq, decide_eq_false_iff_not, Decidable.not_not] at hge
    refine exit ?_
    refine pX ?_
    refine pX ?_
    refine bX ?_
    refine pN ?_
    refine seq ?_
    refine seq ?_
    refine region ?_
    refine cons (opv (Ev.assign (.c (v := I 0) rfl)) ?_)
    refine nil ?_
    refine pN ?_
    refine block ?_
    refine loop (X := Int × (List OV) × (List (List UInt8))) (fun x : Int × (List OV) × (List (List UInt8)) => (0 ≤ x.1 ∧ x.1 ≤ 5) ∧ (x.2.1.length = 5) ∧ (x.2.2.length = 5) ∧ (∀ k : Nat, x.1 ≤ k → (x.2.2.getD k []).length ≤ b.length + 8) ∧ (∀ k : Nat, (x.2.2.getD k []).length ≤ b.length + 28) ∧ (∀ k : Nat, (k : Int) < x.1 → ∀ z ∈ x.2.2.getD k [], z = UInt8.ofInt k)) (fun x : Int × (List OV) × (List (List UInt8)) => [(0, true, u.v), (5, true, subS u8E.size in1.v 0 b.length), (11, true, v6.v), (16, true, I x.1)]) (fun x : Int × (List OV) × (List (List UInt8)) => (OwnS v7.v iE [1, 2, 4, 8, 2] 3 :: OwnS v6.v (ovE nilSl) x.2.1 22 :: (rowsR u8E 5 x.2.1 x.2.2 ++ [OwnS in1.v u8E (b ++ marks) 5]))) (fun x : Int × (List OV) × (List (List UInt8)) => (5 - x.1).toNat) (0, _, _) ⟨?_, ?_, ?_, ?_, ?_, ?_⟩ (by repeat first | exact Sub.nil | refine Sub.cons rfl ?_) (by repeat first | exact List.Sublist.refl _ | apply List.Sublist.cons_cons | apply List.Sublist.cons) (fun x hx => ?_)
    · omega
    · exact ho
    · exact hx
    · intro k _
      rcases Nat.lt_or_ge k 5 with h | h
      · rw [hX k h]
        have := wid_le k h
        simp [putB_length]; omega
      · have e : xss.getD k [] = [] := by simp [List.getD, List.getElem?_eq_none (show xss.length ≤ k by omega)]
        show (xss.getD k []).length ≤ _
        rw [e]; simp
    · intro k
      rcases Nat.lt_or_ge k 5 with h | h
      · rw [hX k h]
        have := wid_le k h
        simp [putB_length]; omega
      · have e : xss.getD k [] = [] := by simp [List.getD, List.getElem?_eq_none (show xss.length ≤ k by omega)]
        show (xss.getD k []).length ≤ _
        rw [e]; simp
    · intro k hk; exact absurd hk (by show ¬ (k : Int) < 0; omega)
    obtain ⟨i, os, xss⟩ := x
    obtain ⟨hi, ho, hx, hn, hm, hd⟩ : (0 ≤ i ∧ i ≤ 5) ∧ (os.length = 5) ∧ (xss.length = 5) ∧ (∀ k : Nat, i ≤ k → (xss.getD k []).length ≤ b.length + 8) ∧ (∀ k : Nat, (xss.getD k []).length ≤ b.length + 28) ∧ (∀ k : Nat, (k : Int) < i → ∀ z ∈ xss.getD k [], z = UInt8.ofInt k) := hx
    show Sat _ _ [(0, true, u.v), (5, true, subS u8E.size in1.v 0 b.length), (11, true, v6.v), (16, true, I i)] (OwnS v7.v iE [1, 2, 4, 8, 2] 3 :: OwnS v6.v (ovE nilSl) os 22 :: (rowsR u8E 5 os xss ++ [OwnS in1.v u8E (b ++ marks) 5]))
    refine seq ?_
    refine seq ?_
    refine region ?_
    refine cons (opv (Ev.move (.t rfl)) ?_)
    refine cons (opv (Ev.move (.t rfl)) ?_)
    refine cons (opv (Ev.len Try.underlying33 (.t rfl) (by first | exact isSl_own (by repeat first | exact List.Mem.head _ | apply List.Mem.tail) | exact fun w I => IsSl.keep0 (by assumption) I.keeps)) ?_)
    refine cons (opv (Ev.lss_i (.t rfl) (.t rfl)) ?_)
    refine nil ?_
    refine pN ?_
    first | refine condD rfl (fun hlt => ?_) (fun hge => ?_) | refine cond rfl (fun hlt => ?_) (fun hge => ?_)
    · try simp only [Bool.and_eq_true, Bool.or_eq_true, Bool.or_eq_false_iff, Bool.and_eq_false_iff, Bool.not_eq_true', Bool.not_eq_false', decide_eq_true_eq, decide_eq_false_iff_not, Decidable.not_not] at hlt
      refine skip ?_
      refine pN ?_
      refine seq ?_
      refine block ?_
      refine seq ?_
      refine seq ?_
      refine region ?_
      refine cons (opv (Ev.assign (.c (v := I 0) rfl)) ?_)
      refine nil ?_
      refine pN ?_
      refine block ?_
      refine loop (X := Int × (List UInt8)) (fun x : Int × (List UInt8) => (0 ≤ x.1 ∧ x.1 ≤ x.2.length) ∧ (x.2.length ≤ b.length + 8) ∧ (∀ z ∈ x.2.take x.1.toNat, z = UInt8.ofInt i)) (fun x : Int × (List UInt8) => [(0, true, u.v), (5, true, subS u8E.size in1.v 0 b.length), (11, true, v6.v), (16, true, I i), (17, true, I x.1)]) (fun x : Int × (List UInt8) => (OwnS v7.v iE [1, 2, 4, 8, 2] 3 :: OwnS v6.v (ovE nilSl) os 22 :: (rowsR u8E 5 os (xss.set i.toNat x.2) ++ [OwnS in1.v u8E (b ++ marks) 5]))) (fun x : Int × (List UInt8) => (x.2.length - x.1).toNat) (0, (xss.getD i.toNat [])) ⟨?_, ?_, ?_⟩ (by repeat first | exact Sub.nil | refine Sub.cons rfl ?_) (by rw [set_getD _ _ _ (by omega)]; exact List.Sublist.refl _) (fun x hx => ?_)
      · omega
      · exact hn i.toNat (by omega)
      · intro x hx; simp at hx
      obtain ⟨j, xs⟩ := x
      obtain ⟨hj, hxl, hjd⟩ : (0 ≤ j ∧ j ≤ xs.length) ∧ (xs.length ≤ b.length + 8) ∧ (∀ z ∈ xs.take j.toNat, z = UInt8.ofInt i) := hx
      show Sat _ _ [(0, true, u.v), (5, true, subS u8E.size in1.v 0 b.length), (11, true, v6.v), (16, true, I i), (17, true, I j)] (OwnS v7.v iE [1, 2, 4, 8, 2] 3 :: OwnS v6.v (ovE nilSl) os 22 :: (rowsR u8E 5 os (xss.set i.toNat xs) ++ [OwnS in1.v u8E (b ++ marks) 5]))
      refine seq ?_
      refine seq ?_
      refine region ?_
      refine cons (opv (Ev.move (.t rfl)) ?_)
      refine cons (opv (Ev.move (.t rfl)) ?_)
      refine cons (opv (Ev.move (.t rfl)) ?_)
      refine cons (opv (Ev.indexAddr Try.underlying33 ty22 (.t rfl) (.t rfl) (by first | exact isSl_own (by repeat first | exact List.Mem.head _ | apply List.Mem.tail) | exact fun w I => IsSl.keep0 (by assumption) I.keeps) (fun _ => by omega)) ?_)
      refine cons (opv (Ev.loadS0 ty22 (.t rfl) (by first | exact isSl_own (by repeat first | exact List.Mem.head _ | apply List.Mem.tail) | exact fun w I => IsSl.keep0 (by assumption) I.keeps) (fun _ => by omega)) ?_)
      refine cons (opv (Ev.len Try.underlying22 (.t rfl) (fun w I => isSl_rowSet (E := u8E) (T := 5) (os := os) (xss := xss) (i := i.toNat) (xs := xs) (by omega) (by omega) (fun r hr => by repeat first | exact List.mem_append_left _ hr | apply List.Mem.tail) w I)) ?_)
      refine cons (opv (Ev.lss_i (.t rfl) (.t rfl)) ?_)
      refine nil ?_
      refine pN ?_
      first | refine condD rfl (fun hlt2 => ?_) (fun hge2 => ?_) | refine cond rfl (fun hlt2 => ?_) (fun hge2 => ?_)
      · try simp only [Bool.and_eq_true, Bool.or_eq_true, Bool.or_eq_false_iff, Bool.and_eq_false_iff, Bool.not_eq_true', Bool.not_eq_false', decide_eq_true_eq, decide_eq_false_iff_not, Decidable.not_not] at hlt2
        refine skip ?_
        refine pN ?_
        refine seq ?_
        refine block ?_
        refine region ?_
        refine cons (opv (Ev.move (.t rfl)) ?_)
        refine cons (opv (Ev.move (.t rfl)) ?_)
        refine cons (opv (Ev.indexAddr Try.underlying33 ty22 (.t rfl) (.t rfl) (by first | exact isSl_own (by repeat first | exact List.Mem.head _ | apply List.Mem.tail) | exact fun w I => IsSl.keep0 (by assumption) I.keeps) (fun _ => by omega)) ?_)
        refine cons (opv (Ev.loadS0 ty22 (.t rfl) (by first | exact isSl_own (by repeat first | exact List.Mem.head _ | apply List.Mem.tail) | exact fun w I => IsSl.keep0 (by assumption) I.keeps) (fun _ => by omega)) ?_)
        refine cons (opv (Ev.move (.t rfl)) ?_)
        refine cons (opv (Ev.move (.t rfl)) ?_)
        refine cons (opv (Ev.conv_i_u8 Try.underlying5 Try.underlying3 (.t rfl)) ?_)
        refine cons (opv (Ev.indexAddr Try.underlying22 ty5 (.t rfl) (.t rfl) (fun w I => isSl_rowSet (E := u8E) (T := 5) (os := os) (xss := xss) (i := i.toNat) (xs := xs) (by omega) (by omega) (fun r hr => by repeat first | exact List.mem_append_left _ hr | apply List.Mem.tail) w I) (fun _ => by omega)) ?_)
        refine cons (storeS0 ty5 (.t rfl) (.t rfl) (Upd.tail (Upd.tail (Upd.left (rowsR_set' _ (by omega) (by omega))))) (by omega) ?_)
        refine nil ?_
        refine bN ?_
        refine pN ?_
        refine region ?_
        refine cons (opv (Ev.move (.t rfl)) ?_)
        refine cons (opv (Ev.add_i (.t rfl) (.c (v := I 1) rfl) (fun _ => by omega)) ?_)
        refine cons (opv (Ev.assign (.t rfl)) ?_)
        refine nil ?_
        refine pN ?_
        refine next (X := Int × (List UInt8)) (j + 1, _) ⟨?_, ?_, ?_⟩ ?_ (by repeat first | exact Sub.nil | refine Sub.cons rfl ?_) (by repeat first | exact List.Sublist.refl _ | apply List.Sublist.cons_cons | apply List.Sublist.cons)
        · try dsimp only
          simp; omega
        · try dsimp only
          simpa using hxl
        · try dsimp only
          have e : (j + 1).toNat = j.toNat + 1 := by omega
          rw [e, take_set _ _ _ (by omega)]
          intro x hx
          rcases List.mem_append.1 hx with h | h
          · exact hjd x h
          · exact List.mem_singleton.1 h
        · try dsimp only
          simp; omega
      · try simp only [Bool.and_eq_true, Bool.or_eq_true, Bool.or_eq_false_iff, Bool.and_eq_false_iff, Bool.not_eq_true', Bool.not_eq_false', decide_eq_true_eq, decide_eq_false_iff_not, Decidable.not_not] at hge2
        refine exit ?_
        refine pX ?_
        refine pX ?_
        refine bX ?_
        refine pN ?_
        refine seq ?_
        refine region ?_
        refine cons (opv (Ev.assign (.c (v := I 0) rfl)) ?_)
        refine nil ?_
        refine pN ?_
        refine block ?_
        refine loop (X := Int × (List OV) × (List UInt8)) (fun x : Int × (List OV) × (List UInt8) => (0 ≤ x.1 ∧ x.1 ≤ 20) ∧ (x.2.1.length = 5) ∧ (x.2.2.length ≤ b.length + 8 + x.1) ∧ (∀ z ∈ x.2.2, z = UInt8.ofInt i)) (fun x : Int × (List OV) × (List UInt8) => [(0, true, u.v), (5, true, subS u8E.size in1.v 0 b.length), (11, true, v6.v), (16, true, I i), (18, true, I x.1)]) (fun x : Int × (List OV) × (List UInt8) => (OwnS v7.v iE [1, 2, 4, 8, 2] 3 :: OwnS v6.v (ovE nilSl) x.2.1 22 :: (rowsR u8E 5 x.2.1 (xss.set i.toNat x.2.2) ++ [OwnS in1.v u8E (b ++ marks) 5]))) (fun x : Int × (List OV) × (List UInt8) => (20 - x.1).toNat) (0, _, _) ⟨?_, ?_, ?_, ?_⟩ (by repeat first | exact Sub.nil | refine Sub.cons rfl ?_) (by repeat first | exact List.Sublist.refl _ | apply List.Sublist.cons_cons | apply List.Sublist.cons) (fun x hx => ?_)
        · omega
        · exact ho
        · show (xs.length : Int) ≤ _; omega
        · rw [List.take_of_length_le (by omega)] at hjd; exact hjd
        obtain ⟨k, os2, xs⟩ := x
        obtain ⟨hk, ho2, hxl2, hxd⟩ : (0 ≤ k ∧ k ≤ 20) ∧ (os2.length = 5) ∧ (xs.length ≤ b.length + 8 + k) ∧ (∀ z ∈ xs, z = UInt8.ofInt i) := hx
        show Sat _ _ [(0, true, u.v), (5, true, subS u8E.size in1.v 0 b.length), (11, true, v6.v), (16, true, I i), (18, true, I k)] (OwnS v7.v iE [1, 2, 4, 8, 2] 3 :: OwnS v6.v (ovE nilSl) os2 22 :: (rowsR u8E 5 os2 (xss.set i.toNat xs) ++ [OwnS in1.v u8E (b ++ marks) 5]))
        refine seq ?_
        refine seq ?_
        refine region ?_
        refine cons (opv (Ev.move (.t rfl)) ?_)
        refine cons (opv (Ev.lss_i (.t rfl) (.c (v := I 20) rfl)) ?_)
        refine nil ?_
        refine pN ?_
        first | refine condD rfl (fun hlt3 => ?_) (fun hge3 => ?_) | refine cond rfl (fun hlt3 => ?_) (fun hge3 => ?_)
        · try simp only [Bool.and_eq_true, Bool.or_eq_true, Bool.or_eq_false_iff, Bool.and_eq_false_iff, Bool.not_eq_true', Bool.not_eq_false', decide_eq_true_eq, decide_eq_false_iff_not, Decidable.not_not] at hlt3
          refine skip ?_
          refine pN ?_
          refine seq ?_
          refine block ?_
          refine region ?_
          refine cons (opv (Ev.move (.t rfl)) ?_)
          refine cons (opv (Ev.move (.t rfl)) ?_)
          refine cons (opv (Ev.move (.t rfl)) ?_)
          refine cons (opv (Ev.move (.t rfl)) ?_)
          refine cons (opv (Ev.indexAddr Try.underlying33 ty22 (.t rfl) (.t rfl) (by first | exact isSl_own (by repeat first | exact List.Mem.head _ | apply List.Mem.tail) | exact fun w I => IsSl.keep0 (by assumption) I.keeps) (fun _ => by omega)) ?_)
          refine cons (opv (Ev.loadS0 ty22 (.t rfl) (by first | exact isSl_own (by repeat first | exact List.Mem.head _ | apply List.Mem.tail) | exact fun w I => IsSl.keep0 (by assumption) I.keeps) (fun _ => by omega)) ?_)
          refine cons (opv (Ev.move (.t rfl)) ?_)
          refine cons (opv (Ev.conv_i_u8 Try.underlying5 Try.underlying3 (.t rfl)) ?_)
          refine cons (buildSlice (E := u8E) Try.underlying22 ty5 z5 (.cons (.t rfl) .nil) rfl rfl (fun v11 => ?_))
          refine cons (appendO (E := u8E) (v := (os2.getD i.toNat nilSl).v) (xs := xs) Try.underlying22 ty5 rfl zb5 zs5 (.t rfl) (.t rfl) (L' := fun o => OwnS v11.v u8E [UInt8.ofInt i] 5 :: OwnS v7.v iE [1, 2, 4, 8, 2] 3 :: OwnS v6.v (ovE nilSl) os2 22 :: (rowsR u8E 5 (os2.set i.toNat o) (xss.set i.toNat (xs ++ [UInt8.ofInt i])) ++ [OwnS in1.v u8E (b ++ marks) 5])) (fun o => Upd.tail (Upd.tail (Upd.tail (Upd.left (rowsR_set o _ (by omega) (by omega)))))) (isSl_own (by repeat first | exact List.Mem.head _ | apply List.Mem.tail)) ⟨by (show _ ≤ 9223372036854775807); simp; omega, by simp; omega⟩ (fun v9 => ?_))
          refine cons (opv (Ev.indexAddr Try.underlying33 ty22 (.t rfl) (.t rfl) (by first | exact isSl_own (by repeat first | exact List.Mem.head _ | apply List.Mem.tail) | exact fun w I => IsSl.keep0 (by assumption) I.keeps) (fun _ => by omega)) ?_)
          refine cons (storeS0 ty22 (.t rfl) (.t rfl) (by repeat first | exact Upd.head | apply Upd.tail) (by omega) ?_)
          refine nil ?_
          refine bN ?_
          refine pN ?_
          refine region ?_
          refine cons (opv (Ev.move (.t rfl)) ?_)
          refine cons (opv (Ev.add_i (.t rfl) (.c (v := I 1) rfl) (fun _ => by omega)) ?_)
          refine cons (opv (Ev.assign (.t rfl)) ?_)
          refine nil ?_
          refine pN ?_
          refine next (X := Int × (List OV) × (List UInt8)) (k + 1, _, _) ⟨?_, ?_, ?_, ?_⟩ ?_ (by repeat first | exact Sub.nil | refine Sub.cons rfl ?_) (by repeat first | exact List.Sublist.refl _ | apply List.Sublist.cons_cons | apply List.Sublist.cons)
          · try dsimp only
            omega
          · try dsimp only
            simpa using ho2
          · try dsimp only
            simp; omega
          · try dsimp only
            intro x hx
            rcases List.mem_append.1 hx with h | h
            · exact hxd x h
            · exact List.mem_singleton.1 h
          · try dsimp only
            omega
        · try simp only [Bool.and_eq_true, Bool.or_eq_true, Bool.or_eq_false_iff, Bool.and_eq_false_iff, Bool.not_eq_true', Bool.not_eq_false', decide_eq_true_eq, decide_eq_false_iff_not, Decidable.not_not] at hge3
          refine exit ?_
          refine pX ?_
          refine pX ?_
          refine bX ?_
          refine bN ?_
          refine pN ?_
          refine region ?_
          refine cons (opv (Ev.move (.t rfl)) ?_)
          refine cons (opv (Ev.add_i (.t rfl) (.c (v := I 1) rfl) (fun _ => by omega)) ?_)
          refine cons (opv (Ev.assign (.t rfl)) ?_)
          refine nil ?_
          refine pN ?_
          refine next (X := Int × (List OV) × (List (List UInt8))) (i + 1, _, _) ⟨?_, ?_, ?_, ?_, ?_, ?_⟩ ?_ (by repeat first | exact Sub.nil | refine Sub.cons rfl ?_) (by repeat first | exact List.Sublist.refl _ | apply List.Sublist.cons_cons | apply List.Sublist.cons)
          · try dsimp only
            omega
          · try dsimp only
            omega
          · try dsimp only
            simpa using hx
          · try dsimp only
            intro k hk
            rw [set_other _ _ _ _ _ (by omega)]
            exact hn k (by omega)
          · try dsimp only
            intro k
            by_cases hki : k = i.toNat
            · subst hki
              rw [set_same _ _ _ _ (by omega)]
              omega
            · rw [set_other _ _ _ _ _ hki]
              exact hm k
          · try dsimp only
            intro k hk
            by_cases hki : k = i.toNat
            · subst hki
              rw [set_same _ _ _ _ (by omega)]
              have ei : (i.toNat : Int) = i := by omega
              rw [ei]
              exact hxd
            · rw [set_other _ _ _ _ _ hki]
              exact hd k (by omega)
          · try dsimp only
            omega
    · try simp only [Bool.and_eq_true, Bool.or_eq_true, Bool.or_eq_false_iff, Bool.and_eq_false_iff, Bool.not_eq_true', Bool.not_eq_false', decide_eq_true_eq, decide_eq_false_iff_not, Decidable.not_not] at hge
      refine exit ?_
      refine pX ?_
      refine pX ?_
      refine bX ?_
      refine pN ?_
      refine seq ?_
      refine seq ?_
      refine region ?_
      refine cons (opv (Ev.assign (.c (v := I 0) rfl)) ?_)
      refine nil ?_
      refine pN ?_
      refine block ?_
      have hd5 : i = 5 := by omega
      subst hd5
      refine loop (X := Int) (fun x : Int => (0 ≤ x ∧ x ≤ 5)) (fun x : Int => [(0, true, u.v), (5, true, subS u8E.size in1.v 0 b.length), (11, true, v6.v), (19, true, I x)]) (fun x : Int => (OwnS v7.v iE [1, 2, 4, 8, 2] 3 :: OwnS v6.v (ovE nilSl) os 22 :: (rowsR u8E 5 os xss ++ [OwnS in1.v u8E (b ++ marks) 5]))) (fun x : Int => (5 - x).toNat) (0) ?_ (by repeat first | exact Sub.nil | refine Sub.cons rfl ?_) (by repeat first | exact List.Sublist.refl _ | apply List.Sublist.cons_cons | apply List.Sublist.cons) (fun x hx => ?_)
      · omega
      obtain ⟨i, rfl⟩ : ∃ y, y = x := ⟨x, rfl⟩
      have hi : 0 ≤ i ∧ i ≤ 5 := hx
      clear hx
      show Sat _ _ [(0, true, u.v), (5, true, subS u8E.size in1.v 0 b.length), (11, true, v6.v), (19, true, I i)] (OwnS v7.v iE [1, 2, 4, 8, 2] 3 :: OwnS v6.v (ovE nilSl) os 22 :: (rowsR u8E 5 os xss ++ [OwnS in1.v u8E (b ++ marks) 5]))
      refine seq ?_
      refine seq ?_
      refine region ?_
      refine cons (opv (Ev.move (.t rfl)) ?_)
      refine cons (opv (Ev.move (.t rfl)) ?_)
      refine cons (opv (Ev.len Try.underlying33 (.t rfl) (by first | exact isSl_own (by repeat first | exact List.Mem.head _ | apply List.Mem.tail) | exact fun w I => IsSl.keep0 (by assumption) I.keeps)) ?_)
      refine cons (opv (Ev.lss_i (.t rfl) (.t rfl)) ?_)
      refine nil ?_
      refine pN ?_
      first | refine condD rfl (fun hlt => ?_) (fun hge => ?_) | refine cond rfl (fun hlt => ?_) (fun hge => ?_)
      · try simp only [Bool.and_eq_true, Bool.or_eq_true, Bool.or_eq_false_iff, Bool.and_eq_false_iff, Bool.not_eq_true', Bool.not_eq_false', decide_eq_true_eq, decide_eq_false_iff_not, Decidable.not_not] at hlt
        refine skip ?_
        refine pN ?_
        refine seq ?_
        refine block ?_
        refine seq ?_
        refine region ?_
        refine cons (opv (Ev.assign (.c (v := I 0) rfl)) ?_)
        refine nil ?_
        refine pN ?_
        refine block ?_
        have hmi := hm i.toNat
        refine loop (X := Int) (fun x : Int => (0 ≤ x ∧ x ≤ (xss.getD i.toNat []).length)) (fun x : Int => [(0, true, u.v), (5, true, subS u8E.size in1.v 0 b.length), (11, true, v6.v), (19, true, I i), (20, true, I x)]) (fun x : Int => (OwnS v7.v iE [1, 2, 4, 8, 2] 3 :: OwnS v6.v (ovE nilSl) os 22 :: (rowsR u8E 5 os xss ++ [OwnS in1.v u8E (b ++ marks) 5]))) (fun x : Int => ((xss.getD i.toNat []).length - x).toNat) (0) ?_ (by repeat first | exact Sub.nil | refine Sub.cons rfl ?_) (by repeat first | exact List.Sublist.refl _ | apply List.Sublist.cons_cons | apply List.Sublist.cons) (fun x hx => ?_)
        · omega
        obtain ⟨j, rfl⟩ : ∃ y, y = x := ⟨x, rfl⟩
        have hj : 0 ≤ j ∧ j ≤ (xss.getD i.toNat []).length := hx
        clear hx
        show Sat _ _ [(0, true, u.v), (5, true, subS u8E.size in1.v 0 b.length), (11, true, v6.v), (19, true, I i), (20, true, I j)] (OwnS v7.v iE [1, 2, 4, 8, 2] 3 :: OwnS v6.v (ovE nilSl) os 22 :: (rowsR u8E 5 os xss ++ [OwnS in1.v u8E (b ++ marks) 5]))
        refine seq ?_
        refine seq ?_
        refine region ?_
        refine cons (opv (Ev.move (.t rfl)) ?_)
        refine cons (opv (Ev.move (.t rfl)) ?_)
        refine cons (opv (Ev.move (.t rfl)) ?_)
        refine cons (opv (Ev.indexAddr Try.underlying33 ty22 (.t rfl) (.t rfl) (by first | exact isSl_own (by repeat first | exact List.Mem.head _ | apply List.Mem.tail) | exact fun w I => IsSl.keep0 (by assumption) I.keeps) (fun _ => by omega)) ?_)
        refine cons (opv (Ev.loadS0 ty22 (.t rfl) (by first | exact isSl_own (by repeat first | exact List.Mem.head _ | apply List.Mem.tail) | exact fun w I => IsSl.keep0 (by assumption) I.keeps) (fun _ => by omega)) ?_)
        refine cons (opv (Ev.len Try.underlying22 (.t rfl) (fun w I => isSl_rows (E := u8E) (T := 5) (os := os) (xss := xss) (i := i.toNat) (by omega) (by omega) (fun r hr => by repeat first | exact List.mem_append_left _ hr | apply List.Mem.tail) w I)) ?_)
        refine cons (opv (Ev.lss_i (.t rfl) (.t rfl)) ?_)
        refine nil ?_
        refine pN ?_
        first | refine condD rfl (fun hlt2 => ?_) (fun hge2 => ?_) | refine cond rfl (fun hlt2 => ?_) (fun hge2 => ?_)
        · try simp only [Bool.and_eq_true, Bool.or_eq_true, Bool.or_eq_false_iff, Bool.and_eq_false_iff, Bool.not_eq_true', Bool.not_eq_false', decide_eq_true_eq, decide_eq_false_iff_not, Decidable.not_not] at hlt2
          refine skip ?_
          refine pN ?_
          refine seq ?_
          refine block ?_
          refine seq ?_
          refine region ?_
          refine cons (opv (Ev.move (.t rfl)) ?_)
          refine cons (opv (Ev.move (.t rfl)) ?_)
          refine cons (opv (Ev.indexAddr Try.underlying33 ty22 (.t rfl) (.t rfl) (by first | exact isSl_own (by repeat first | exact List.Mem.head _ | apply List.Mem.tail) | exact fun w I => IsSl.keep0 (by assumption) I.keeps) (fun _ => by omega)) ?_)
          refine cons (opv (Ev.loadS0 ty22 (.t rfl) (by first | exact isSl_own (by repeat first | exact List.Mem.head _ | apply List.Mem.tail) | exact fun w I => IsSl.keep0 (by assumption) I.keeps) (fun _ => by omega)) ?_)
          refine cons (opv (Ev.move (.t rfl)) ?_)
          refine cons (opv (Ev.indexAddr Try.underlying22 ty5 (.t rfl) (.t rfl) (fun w I => isSl_rows (E := u8E) (T := 5) (os := os) (xss := xss) (i := i.toNat) (by omega) (by omega) (fun r hr => by repeat first | exact List.mem_append_left _ hr | apply List.Mem.tail) w I) (fun _ => by omega)) ?_)
          refine cons (opv (Ev.loadS0 ty5 (.t rfl) (fun w I => isSl_rows (E := u8E) (T := 5) (os := os) (xss := xss) (i := i.toNat) (by omega) (by omega) (fun r hr => by repeat first | exact List.mem_append_left _ hr | apply List.Mem.tail) w I) (fun _ => by omega)) ?_)
          refine cons (opv (Ev.move (.t rfl)) ?_)
          refine cons (opv (Ev.conv_i_u8 Try.underlying5 Try.underlying3 (.t rfl)) ?_)
          refine cons (opv (Ev.neq_u8 (.t rfl) (.t rfl)) ?_)
          refine nil ?_
          refine pN ?_
          first | refine condD rfl (fun h8 => ?_) (fun h8 => ?_) | refine cond rfl (fun h8 => ?_) (fun h8 => ?_)
          · exfalso
            have hdd := hd i.toNat (by omega) _ (getD_mem (xss.getD i.toNat []) j.toNat 0 (by omega))
            have ei : (i.toNat : Int) = i := by omega
            rw [ei] at hdd
            exact absurd (show (xss.getD i.toNat []).getD j.toNat u8E.zero = _ from hdd) (by simpa using h8)
          · refine skip ?_
            refine bN ?_
            refine pN ?_
            refine region ?_
            refine cons (opv (Ev.move (.t rfl)) ?_)
            refine cons (opv (Ev.add_i (.t rfl) (.c (v := I 1) rfl) (fun _ => by omega)) ?_)
            refine cons (opv (Ev.assign (.t rfl)) ?_)
            refine nil ?_
            refine pN ?_
            refine next (X := Int) (j + 1) ?_ ?_ (by repeat first | exact Sub.nil | refine Sub.cons rfl ?_) (by repeat first | exact List.Sublist.refl _ | apply List.Sublist.cons_cons | apply List.Sublist.cons)
            · try dsimp only
              omega
            · try dsimp only
              omega
        · try simp only [Bool.and_eq_true, Bool.or_eq_true, Bool.or_eq_false_iff, Bool.and_eq_false_iff, Bool.not_eq_true', Bool.not_eq_false', decide_eq_true_eq, decide_eq_false_iff_not, Decidable.not_not] at hge2
          refine exit ?_
          refine pX ?_
          refine pX ?_
          refine bX ?_
          refine bN ?_
          refine pN ?_
          refine region ?_
          refine cons (opv (Ev.move (.t rfl)) ?_)
          refine cons (opv (Ev.add_i (.t rfl) (.c (v := I 1) rfl) (fun _ => by omega)) ?_)
          refine cons (opv (Ev.assign (.t rfl)) ?_)
          refine nil ?_
          refine pN ?_
          refine next (X := Int) (i + 1) ?_ ?_ (by repeat first | exact Sub.nil | refine Sub.cons rfl ?_) (by repeat first | exact List.Sublist.refl _ | apply List.Sublist.cons_cons | apply List.Sublist.cons)
          · try dsimp only
            omega
          · try dsimp only
            omega
      · try simp only [Bool.and_eq_true, Bool.or_eq_true, Bool.or_eq_false_iff, Bool.and_eq_false_iff, Bool.not_eq_true', Bool.not_eq_false', decide_eq_true_eq, decide_eq_false_iff_not, Decidable.not_not] at hge
        refine exit ?_
        refine pX ?_
        refine pX ?_
        refine bX ?_
        refine pN ?_
        refine seq ?_
        refine region ?_
        refine cons (opv (Ev.move (.t rfl)) ?_)
        refine cons (opv (Ev.move (.t rfl)) ?_)
        refine cons (callv en21 (.cons (.t rfl) (.cons (.t rfl) .nil)) (fun w I => kept_ok _ _ b w (isSl_own (by repeat first | exact List.Mem.head _ | apply List.Mem.tail | exact List.mem_append_right _ (List.Mem.head _)) w I) (hb.keep0 I.keeps) (by omega)) ?_)
        refine cons (opv (Ev.move (.t rfl)) ?_)
        refine cons (callg rfl rfl en22 .nil (fun hg w I => works_ok w) ?_)
        refine cons (opv (Ev.pickA (.t rfl) (fun {_} h => by cases h; rfl) ⟨_, rfl⟩ (by intro h1 h; first | (rw [h] <;> rfl) | (rw [h, h1] <;> rfl) | simp_all) (.c (v := .bool false) rfl)) ?_)
        refine cons (opv (Ev.assign (.t rfl)) ?_)
        refine nil ?_
        refine pN ?_
        refine ret ?_
        refine done rfl (.tmp rfl .nil) (retE ?_)
        simp [tupV]
end Go.Proofs.Ytcmpdhggeilkfaa
