/- octets -/
import Derived.Test.YtcmpdhggeilkfaaO3
set_option linter.unusedVariables false
set_option linter.unusedSimpArgs false
namespace Go.Proofs.Ytcmpdhggeilkfaa
open Go Go.Gx

/-- What is above 16 bits added to the lowest 16, to the end. -/
def foldN (m : Nat) : Nat := if m = 0 then 0 else (m - 1) % 65535 + 1
theorem foldN_step (m : Nat) : foldN (m / 65536 + m % 65536) = foldN m := by
  unfold foldN
  by_cases h : m = 0
  · subst h; rfl
  · have h1 : m / 65536 + m % 65536 ≠ 0 := by omega
    rw [if_neg h, if_neg h1]
    omega
theorem foldN_small {m : Nat} (h : m ≤ 65535) : foldN m = m := by
  unfold foldN
  split <;> omega
theorem foldN_le (m : Nat) : foldN m ≤ 65535 := by
  unfold foldN
  split <;> omega
def sh : Bool → Nat
  | true => 8
  | false => 0
/-- The sum of numbers of 16 bits; the flag: the next byte is a higher one. -/
def sumGo : Bool → List UInt8 → UInt64 → UInt64
  | _, [], n => n
  | p, x :: l, n => sumGo (!p) l (n + shl64 x.toUInt64 (sh p))
theorem sumGo_step (p : Bool) (xs r : List UInt8) (j : Nat) (n : UInt64) (hj : j < xs.length) : sumGo (!p) (xs.drop (j + 1) ++ r) (n + shl64 (xs.getD j 0).toUInt64 (sh p)) = sumGo p (xs.drop j ++ r) n := by
  rw [List.drop_eq_getElem_cons hj]
  have e : xs.getD j 0 = xs[j] := by simp [List.getD, hj]
  rw [e]
  rfl
/-- The internet checksum. -/
def sumB (l : List UInt8) : UInt16 := UInt16.ofNat (65535 - foldN (sumGo true l 0).toNat)
def updB (s o n : UInt16) : UInt16 := UInt16.ofNat (65535 - foldN (65535 - s.toNat + (65535 - o.toNat) + n.toNat))
theorem compl_fold (m : Nat) : ~~~ (UInt16.ofNat (foldN m)) = UInt16.ofNat (65535 - foldN m) := by
  have h := foldN_le m
  apply UInt16.toNat_inj.1
  rw [UInt16.toNat_not, UInt16.toNat_ofNat', UInt16.toNat_ofNat']
  simp only [UInt16.size]
  omega
theorem sub_fold (m : Nat) : ((65535 : UInt64) - UInt64.ofNat (foldN m)).toUInt16 = UInt16.ofNat (65535 - foldN m) := by
  have h := foldN_le m
  apply UInt16.toNat_inj.1
  rw [UInt64.toNat_toUInt16, UInt64.toNat_sub, UInt64.toNat_ofNat', UInt16.toNat_ofNat']
  have e : UInt64.toNat 65535 = 65535 := rfl
  rw [e]
  omega

theorem rfold_ok (m : UInt64) (w : World) : Calls Try.prog 46 #[U64 m] w (RetV w (U64 (UInt64.ofNat (foldN m.toNat)))) := by
  refine enter0 11 Try.func46 rfl rfl (Nat.le_of_ble_eq_true rfl) ?_
  refine seq ?_
  refine region ?_
  refine cons (opv (Ev.assign (.c (v := U64 0) rfl)) ?_)
  refine nil ?_
  refine pN ?_
  refine seq ?_
  refine block ?_
  refine loop (X := UInt64) (fun x : UInt64 => (foldN x.toNat = foldN m.toNat)) (fun x : UInt64 => [(0, true, U64 x)]) (fun x : UInt64 => []) (fun x : UInt64 => x.toNat) (_) ?_ (by repeat first | exact Sub.nil | refine Sub.cons rfl ?_) (by repeat first | exact List.Sublist.refl _ | apply List.Sublist.cons_cons | apply List.Sublist.cons) (fun x hx => ?_)
  · rfl
  obtain ⟨n, rfl⟩ : ∃ y, y = x := ⟨x, rfl⟩
  have hn : foldN n.toNat = foldN m.toNat := hx
  clear hx
  show Sat _ _ [(0, true, U64 n)] []
  refine seq ?_
  refine seq ?_
  refine region ?_
  refine cons (opv (Ev.move (.t rfl)) ?_)
  refine cons (opv (Ev.gtr_u64 (.t rfl) (.c (v := U64 65535) rfl)) ?_)
  refine nil ?_
  refine pN ?_
  first | refine condD rfl (fun hgt => ?_) (fun hle => ?_) | refine cond rfl (fun hgt => ?_) (fun hle => ?_)
  · try simp only [Bool.and_eq_true, Bool.or_eq_true, Bool.or_eq_false_iff, Bool.and_eq_false_iff, Bool.not_eq_true', Bool.not_eq_false', decide_eq_true_eq, decide_eq_false_iff_not, Decidable.not_not] at hgt
    have hg2 : 65535 < n.toNat := by simpa [UInt64.lt_iff_toNat_lt] using hgt
    have hnl := n.toNat_lt
    have hstep : (n / 65536 + n % 65536).toNat = n.toNat / 65536 + n.toNat % 65536 := by
      rw [UInt64.toNat_add, UInt64.toNat_div, UInt64.toNat_mod]
      have e : UInt64.toNat 65536 = 65536 := rfl
      rw [e]; omega
    refine skip ?_
    refine pN ?_
    refine block ?_
    refine region ?_
    refine cons (opv (Ev.move (.t rfl)) ?_)
    refine cons (opv (Ev.quo_u64 (.t rfl) (.c (v := U64 65536) rfl) (fun _ => by decide)) ?_)
    refine cons (opv (Ev.move (.t rfl)) ?_)
    refine cons (opv (Ev.rem_u64 (.t rfl) (.c (v := U64 65536) rfl) (fun _ => by decide)) ?_)
    refine cons (opv (Ev.add_u64 (.t rfl) (.t rfl)) ?_)
    refine cons (opv (Ev.assign (.t rfl)) ?_)
    refine nil ?_
    refine bN ?_
    refine pN ?_
    refine next (X := UInt64) (_) ?_ ?_ (by repeat first | exact Sub.nil | refine Sub.cons rfl ?_) (by repeat first | exact List.Sublist.refl _ | apply List.Sublist.cons_cons | apply List.Sublist.cons)
    · try dsimp only
      rw [← hn, ← foldN_step n.toNat, hstep]
    · try dsimp only
      rw [hstep]; omega
  · try simp only [Bool.and_eq_true, Bool.or_eq_true, Bool.or_eq_false_iff, Bool.and_eq_false_iff, Bool.not_eq_true', Bool.not_eq_false', decide_eq_true_eq, decide_eq_false_iff_not, Decidable.not_not] at hle
    refine exit ?_
    refine pX ?_
    refine pX ?_
    refine bX ?_
    refine pN ?_
    refine seq ?_
    refine region ?_
    refine cons (opv (Ev.move (.t rfl)) ?_)
    refine cons (opv (Ev.assign (.t rfl)) ?_)
    refine nil ?_
    refine pN ?_
    refine ret ?_
    refine done rfl (.tmp rfl .nil) (retE ?_)
    have hl : n.toNat ≤ 65535 := by
      have : ¬ 65535 < n.toNat := by simpa [UInt64.lt_iff_toNat_lt] using hle
      omega
    rw [← hn, foldN_small hl, UInt64.ofNat_toNat]; rfl

theorem ofold_ok (m : UInt64) (w : World) : Calls Try.prog 45 #[U64 m] w (RetV w (U16 (UInt16.ofNat (foldN m.toNat)))) := by
  refine enter0 13 Try.func45 rfl rfl (Nat.le_of_ble_eq_true rfl) ?_
  refine seq ?_
  refine region ?_
  refine cons (opv (Ev.assign (.c (v := U16 0) rfl)) ?_)
  refine nil ?_
  refine pN ?_
  refine seq ?_
  refine block ?_
  refine loop (X := UInt64) (fun x : UInt64 => (foldN x.toNat = foldN m.toNat)) (fun x : UInt64 => [(0, true, U64 x)]) (fun x : UInt64 => []) (fun x : UInt64 => x.toNat) (_) ?_ (by repeat first | exact Sub.nil | refine Sub.cons rfl ?_) (by repeat first | exact List.Sublist.refl _ | apply List.Sublist.cons_cons | apply List.Sublist.cons) (fun x hx => ?_)
  · rfl
  obtain ⟨n, rfl⟩ : ∃ y, y = x := ⟨x, rfl⟩
  have hn : foldN n.toNat = foldN m.toNat := hx
  clear hx
  show Sat _ _ [(0, true, U64 n)] []
  refine seq ?_
  refine seq ?_
  refine region ?_
  refine cons (opv (Ev.move (.t rfl)) ?_)
  refine cons (opv (Ev.shr_u64 (.t rfl) (.c rfl) (fun _ => by decide)) ?_)
  refine cons (opv (Ev.gtr_u64 (.t rfl) (.c (v := U64 0) rfl)) ?_)
  refine nil ?_
  refine pN ?_
  first | refine condD rfl (fun hgt => ?_) (fun hle => ?_) | refine cond rfl (fun hgt => ?_) (fun hle => ?_)
  · try simp only [Bool.and_eq_true, Bool.or_eq_true, Bool.or_eq_false_iff, Bool.and_eq_false_iff, Bool.not_eq_true', Bool.not_eq_false', decide_eq_true_eq, decide_eq_false_iff_not, Decidable.not_not] at hgt
    have hg2 : 0 < n.toNat / 2 ^ 16 := by simpa [UInt64.lt_iff_toNat_lt, toNat_shr64] using hgt
    have hnl := n.toNat_lt
    have hstep : (shr64 n 16 + (n &&& 65535)).toNat = n.toNat / 65536 + n.toNat % 65536 := by
      rw [UInt64.toNat_add, toNat_shr64, UInt64.toNat_and]
      have e : UInt64.toNat 65535 = 2 ^ 16 - 1 := rfl
      rw [e, Nat.and_two_pow_sub_one_eq_mod]; omega
    refine skip ?_
    refine pN ?_
    refine block ?_
    refine region ?_
    refine cons (opv (Ev.move (.t rfl)) ?_)
    refine cons (opv (Ev.shr_u64 (.t rfl) (.c rfl) (fun _ => by decide)) ?_)
    refine cons (opv (Ev.move (.t rfl)) ?_)
    refine cons (opv (Ev.and_u64 (.t rfl) (.c (v := U64 65535) rfl)) ?_)
    refine cons (opv (Ev.add_u64 (.t rfl) (.t rfl)) ?_)
    refine cons (opv (Ev.assign (.t rfl)) ?_)
    refine nil ?_
    refine bN ?_
    refine pN ?_
    refine next (X := UInt64) (_) ?_ ?_ (by repeat first | exact Sub.nil | refine Sub.cons rfl ?_) (by repeat first | exact List.Sublist.refl _ | apply List.Sublist.cons_cons | apply List.Sublist.cons)
    · try dsimp only
      rw [← hn, ← foldN_step n.toNat, ← hstep]; rfl
    · try dsimp only
      have hm : (shr64 n (Int.toNat 16) + (n &&& 65535)).toNat = n.toNat / 65536 + n.toNat % 65536 := hstep
      rw [hm]; omega
  · try simp only [Bool.and_eq_true, Bool.or_eq_true, Bool.or_eq_false_iff, Bool.and_eq_false_iff, Bool.not_eq_true', Bool.not_eq_false', decide_eq_true_eq, decide_eq_false_iff_not, Decidable.not_not] at hle
    refine exit ?_
    refine pX ?_
    refine pX ?_
    refine bX ?_
    refine pN ?_
    refine seq ?_
    refine region ?_
    refine cons (opv (Ev.move (.t rfl)) ?_)
    refine cons (opv (Ev.conv_u64_u16 Try.underlying27 Try.underlying23 (.t rfl)) ?_)
    refine cons (opv (Ev.assign (.t rfl)) ?_)
    refine nil ?_
    refine pN ?_
    refine ret ?_
    refine done rfl (.tmp rfl .nil) (retE ?_)
    have hl : n.toNat ≤ 65535 := by
      have : ¬ 0 < n.toNat / 2 ^ 16 := by simpa [UInt64.lt_iff_toNat_lt, toNat_shr64] using hle
      omega
    rw [← hn, foldN_small hl]
    have e : n.toUInt16 = UInt16.ofNat n.toNat := by
      apply UInt16.toNat_inj.1
      rw [UInt64.toNat_toUInt16, UInt16.toNat_ofNat']
    rw [← e]; rfl

theorem en45 : Enters Try.prog 45 := Enters.mk' (by kernel_rfl)

theorem sum_ok (u : Value) (xss : List (List UInt8)) (w : World) (hs : IsSS u8E w u xss) : Calls Try.prog 29 #[u] w (RetV w (U16 (sumB xss.flatten))) := by
  obtain ⟨vs, hvs, hvl, he⟩ := hs
  have hvle := hvs.le
  refine enter0 34 Try.func29 rfl rfl (Nat.le_of_ble_eq_true rfl) ?_
  refine seq ?_
  refine region ?_
  refine cons (opv (Ev.assign (.c (v := U16 0) rfl)) ?_)
  refine nil ?_
  refine pN ?_
  refine seq ?_
  refine region ?_
  refine cons (opv (Ev.assign (.c (v := U64 0) rfl)) ?_)
  refine nil ?_
  refine pN ?_
  refine seq ?_
  refine region ?_
  refine cons (opv (Ev.assign (.c (v := I 8) rfl)) ?_)
  refine nil ?_
  refine pN ?_
  refine seq ?_
  refine seq ?_
  refine region ?_
  refine cons (opv (Ev.move (.t rfl)) ?_)
  refine cons (opv (Ev.len Try.underlying33 (.t rfl) (by first | exact isSl_own (by repeat first | exact List.Mem.head _ | apply List.Mem.tail) | exact fun w I => IsSl.keep0 (by assumption) I.keeps)) ?_)
  refine cons (opv (Ev.move (.c (v := I 0) rfl)) ?_)
  refine nil ?_
  refine pN ?_
  refine block ?_
  refine loop (X := Int × UInt64 × Bool) (fun x : Int × UInt64 × Bool => (0 ≤ x.1 ∧ x.1 ≤ xss.length) ∧ (sumGo x.2.2 (xss.drop x.1.toNat).flatten x.2.1 = sumGo true xss.flatten 0)) (fun x : Int × UInt64 × Bool => [(3, true, U64 x.2.1), (4, true, I (sh x.2.2)), (9, true, u), (10, true, I vs.length), (11, true, I x.1)]) (fun x : Int × UInt64 × Bool => []) (fun x : Int × UInt64 × Bool => (xss.length - x.1).toNat) (0, _, true) ⟨?_, ?_⟩ (by repeat first | exact Sub.nil | refine Sub.cons rfl ?_) (by repeat first | exact List.Sublist.refl _ | apply List.Sublist.cons_cons | apply List.Sublist.cons) (fun x hx => ?_)
  · omega
  · rfl
  obtain ⟨i, h, p⟩ := x
  obtain ⟨hi, hh⟩ : (0 ≤ i ∧ i ≤ xss.length) ∧ (sumGo p (xss.drop i.toNat).flatten h = sumGo true xss.flatten 0) := hx
  show Sat _ _ [(3, true, U64 h), (4, true, I (sh p)), (9, true, u), (10, true, I vs.length), (11, true, I i)] []
  refine seq ?_
  refine region ?_
  refine cons (opv (Ev.lss_i (.t rfl) (.t rfl)) ?_)
  refine nil ?_
  refine pN ?_
  refine seq ?_
  first | refine condD rfl (fun hlt => ?_) (fun hge => ?_) | refine cond rfl (fun hlt => ?_) (fun hge => ?_)
  · try simp only [Bool.and_eq_true, Bool.or_eq_true, Bool.or_eq_false_iff, Bool.and_eq_false_iff, Bool.not_eq_true', Bool.not_eq_false', decide_eq_true_eq, decide_eq_false_iff_not, Decidable.not_not] at hlt
    refine skip ?_
    refine pN ?_
    refine seq ?_
    refine block ?_
    refine seq ?_
    refine region ?_
    refine cons (opv (Ev.indexAddr Try.underlying33 ty22 (.t rfl) (.t rfl) (by first | exact isSl_own (by repeat first | exact List.Mem.head _ | apply List.Mem.tail) | exact fun w I => IsSl.keep0 (by assumption) I.keeps) (fun _ => by omega)) ?_)
    refine cons (opv (Ev.loadS0 ty22 (.t rfl) (by first | exact isSl_own (by repeat first | exact List.Mem.head _ | apply List.Mem.tail) | exact fun w I => IsSl.keep0 (by assumption) I.keeps) (fun _ => by omega)) ?_)
    refine cons (opv (Ev.assign (.t rfl)) ?_)
    refine nil ?_
    refine pN ?_
    refine seq ?_
    refine region ?_
    have hd : xss.drop i.toNat = xss.getD i.toNat [] :: xss.drop (i + 1).toNat := by
      have e : (i + 1).toNat = i.toNat + 1 := by omega
      rw [e, List.drop_eq_getElem_cons (by omega)]; simp [List.getD, show i.toNat < xss.length by omega]
    rw [hd, List.flatten_cons] at hh
    have hx := he i.toNat (by omega)
    have hxl := hx.le
    generalize xss.getD i.toNat [] = xs at hh hx hxl
    change IsSl u8E w (vs.getD i.toNat nilSl).v xs at hx
    refine cons (opv (Ev.move (.t rfl)) ?_)
    refine cons (opv (Ev.len Try.underlying22 (.t rfl) (by first | exact isSl_own (by repeat first | exact List.Mem.head _ | apply List.Mem.tail) | exact fun w I => IsSl.keep0 (by assumption) I.keeps)) ?_)
    refine cons (opv (Ev.move (.c (v := I 0) rfl)) ?_)
    refine nil ?_
    refine pN ?_
    refine block ?_
    refine loop (X := Int × UInt64 × Bool) (fun x : Int × UInt64 × Bool => (0 ≤ x.1 ∧ x.1 ≤ xs.length) ∧ (sumGo x.2.2 (xs.drop x.1.toNat ++ (xss.drop (i + 1).toNat).flatten) x.2.1 = sumGo p (xs ++ (xss.drop (i + 1).toNat).flatten) h)) (fun x : Int × UInt64 × Bool => [(3, true, U64 x.2.1), (4, true, I (sh x.2.2)), (9, true, u), (10, true, I vs.length), (11, true, I i), (15, true, (vs.getD i.toNat nilSl).v), (16, true, I xs.length), (17, true, I x.1)]) (fun x : Int × UInt64 × Bool => []) (fun x : Int × UInt64 × Bool => (xs.length - x.1).toNat) (0, _, _) ⟨?_, ?_⟩ (by repeat first | exact Sub.nil | refine Sub.cons rfl ?_) (by repeat first | exact List.Sublist.refl _ | apply List.Sublist.cons_cons | apply List.Sublist.cons) (fun x hx => ?_)
    · omega
    · rfl
    obtain ⟨j, g, q⟩ := x
    obtain ⟨hj, hg⟩ : (0 ≤ j ∧ j ≤ xs.length) ∧ (sumGo q (xs.drop j.toNat ++ (xss.drop (i + 1).toNat).flatten) g = sumGo p (xs ++ (xss.drop (i + 1).toNat).flatten) h) := hx
    show Sat _ _ [(3, true, U64 g), (4, true, I (sh q)), (9, true, u), (10, true, I vs.length), (11, true, I i), (15, true, (vs.getD i.toNat nilSl).v), (16, true, I xs.length), (17, true, I j)] []
    refine seq ?_
    refine region ?_
    refine cons (opv (Ev.lss_i (.t rfl) (.t rfl)) ?_)
    refine nil ?_
    refine pN ?_
    refine seq ?_
    first | refine condD rfl (fun hlt2 => ?_) (fun hge2 => ?_) | refine cond rfl (fun hlt2 => ?_) (fun hge2 => ?_)
    · try simp only [Bool.and_eq_true, Bool.or_eq_true, Bool.or_eq_false_iff, Bool.and_eq_false_iff, Bool.not_eq_true', Bool.not_eq_false', decide_eq_true_eq, decide_eq_false_iff_not, Decidable.not_not] at hlt2
      refine skip ?_
      refine pN ?_
      refine seq ?_
      refine block ?_
      refine seq ?_
      refine region ?_
      refine cons (opv (Ev.indexAddr Try.underlying22 ty5 (.t rfl) (.t rfl) (by first | exact isSl_own (by repeat first | exact List.Mem.head _ | apply List.Mem.tail) | exact fun w I => IsSl.keep0 (by assumption) I.keeps) (fun _ => by omega)) ?_)
      refine cons (opv (Ev.loadS0 ty5 (.t rfl) (by first | exact isSl_own (by repeat first | exact List.Mem.head _ | apply List.Mem.tail) | exact fun w I => IsSl.keep0 (by assumption) I.keeps) (fun _ => by omega)) ?_)
      refine cons (opv (Ev.assign (.t rfl)) ?_)
      refine nil ?_
      refine pN ?_
      refine seq ?_
      refine region ?_
      refine cons (opv (Ev.move (.t rfl)) ?_)
      refine cons (opv (Ev.move (.t rfl)) ?_)
      refine cons (opv (Ev.conv_u8_u64 Try.underlying23 Try.underlying5 (.t rfl)) ?_)
      refine cons (opv (Ev.move (.t rfl)) ?_)
      refine cons (opv (Ev.shl_u64 (.t rfl) (.t rfl) (fun _ => by omega)) ?_)
      refine cons (opv (Ev.add_u64 (.t rfl) (.t rfl)) ?_)
      refine cons (opv (Ev.assign (.t rfl)) ?_)
      refine nil ?_
      refine pN ?_
      refine region ?_
      refine cons (opv (Ev.move (.t rfl)) ?_)
      refine cons (opv (Ev.bits_i (r := sh (!q)) (m := sh q) (n := 8) (.inr (.inr rfl)) (.t rfl) (.c rfl) (fun _ => by cases q <;> decide) (fun _ => by decide) (by cases q <;> rfl)) ?_)
      refine cons (opv (Ev.assign (.t rfl)) ?_)
      refine nil ?_
      refine bN ?_
      refine pN ?_
      refine region ?_
      refine cons (opv (Ev.add_i (.t rfl) (.c (v := I 1) rfl) (fun _ => by omega)) ?_)
      refine cons (opv (Ev.move (.t rfl)) ?_)
      refine nil ?_
      refine pN ?_
      refine next (X := Int × UInt64 × Bool) (j + 1, _, !q) ⟨?_, ?_⟩ ?_ (by repeat first | exact Sub.nil | refine Sub.cons rfl ?_) (by repeat first | exact List.Sublist.refl _ | apply List.Sublist.cons_cons | apply List.Sublist.cons)
      · try dsimp only
        omega
      · try dsimp only
        rw [← hg]
        have e : (j + 1).toNat = j.toNat + 1 := by omega
        rw [e]
        have e2 : ((sh q : Nat) : Int).toNat = sh q := rfl
        rw [e2]
        exact sumGo_step q xs _ j.toNat _ (by omega)
      · try dsimp only
        omega
    · try simp only [Bool.and_eq_true, Bool.or_eq_true, Bool.or_eq_false_iff, Bool.and_eq_false_iff, Bool.not_eq_true', Bool.not_eq_false', decide_eq_true_eq, decide_eq_false_iff_not, Decidable.not_not] at hge2
      have hq : sumGo q (xss.drop (i + 1).toNat).flatten g = sumGo p (xs ++ (xss.drop (i + 1).toNat).flatten) h := by
        rw [List.drop_eq_nil_of_le (by omega)] at hg; exact hg
      refine exit ?_
      refine pX ?_
      refine pX ?_
      refine bX ?_
      refine bN ?_
      refine pN ?_
      refine region ?_
      refine cons (opv (Ev.add_i (.t rfl) (.c (v := I 1) rfl) (fun _ => by omega)) ?_)
      refine cons (opv (Ev.move (.t rfl)) ?_)
      refine nil ?_
      refine pN ?_
      refine next (X := Int × UInt64 × Bool) (i + 1, _, _) ⟨?_, ?_⟩ ?_ (by repeat first | exact Sub.nil | refine Sub.cons rfl ?_) (by repeat first | exact List.Sublist.refl _ | apply List.Sublist.cons_cons | apply List.Sublist.cons)
      · try dsimp only
        omega
      · try dsimp only
        exact hq.trans hh
      · try dsimp only
        omega
  · try simp only [Bool.and_eq_true, Bool.or_eq_true, Bool.or_eq_false_iff, Bool.and_eq_false_iff, Bool.not_eq_true', Bool.not_eq_false', decide_eq_true_eq, decide_eq_false_iff_not, Decidable.not_not] at hge
    refine exit ?_
    refine pX ?_
    refine pX ?_
    refine bX ?_
    refine pN ?_
    refine seq ?_
    refine region ?_
    refine cons (opv (Ev.move (.t rfl)) ?_)
    refine cons (callv en45 (.cons (.t rfl) .nil) (fun w I => ofold_ok _ w) ?_)
    refine cons (opv (Ev.compl_u16 (.t rfl)) ?_)
    refine cons (opv (Ev.assign (.t rfl)) ?_)
    refine nil ?_
    refine pN ?_
    refine ret ?_
    refine done rfl (.tmp rfl .nil) (retE ?_)
    have e : xss.drop i.toNat = [] := List.drop_eq_nil_of_le (by omega)
    rw [e] at hh
    rw [compl_fold]
    unfold sumB
    rw [← hh]; rfl

theorem en46 : Enters Try.prog 46 := Enters.mk' (by kernel_rfl)

theorem rsum_ok (u : Value) (b : List UInt8) (w : World) (hb : IsSl u8E w u b) : Calls Try.prog 30 #[u] w (RetV w (U16 (sumB b))) := by
  have hbl := hb.le
  refine enter0 29 Try.func30 rfl rfl (Nat.le_of_ble_eq_true rfl) ?_
  refine seq ?_
  refine region ?_
  refine cons (opv (Ev.assign (.c (v := U16 0) rfl)) ?_)
  refine nil ?_
  refine pN ?_
  refine seq ?_
  refine region ?_
  refine cons (opv (Ev.assign (.c (v := U64 0) rfl)) ?_)
  refine nil ?_
  refine pN ?_
  refine seq ?_
  refine seq ?_
  refine region ?_
  refine cons (opv (Ev.assign (.c (v := I 0) rfl)) ?_)
  refine nil ?_
  refine pN ?_
  refine block ?_
  refine loop (X := Int × UInt64) (fun x : Int × UInt64 => (0 ≤ x.1 ∧ x.1 ≤ b.length) ∧ (sumGo (decide (x.1 % 2 = 0)) (b.drop x.1.toNat) x.2 = sumGo true b 0)) (fun x : Int × UInt64 => [(0, true, u), (3, true, U64 x.2), (4, true, I x.1)]) (fun x : Int × UInt64 => []) (fun x : Int × UInt64 => (b.length - x.1).toNat) (0, _) ⟨?_, ?_⟩ (by repeat first | exact Sub.nil | refine Sub.cons rfl ?_) (by repeat first | exact List.Sublist.refl _ | apply List.Sublist.cons_cons | apply List.Sublist.cons) (fun x hx => ?_)
  · omega
  · rfl
  obtain ⟨i, h⟩ := x
  obtain ⟨hi, hh⟩ : (0 ≤ i ∧ i ≤ b.length) ∧ (sumGo (decide (i % 2 = 0)) (b.drop i.toNat) h = sumGo true b 0) := hx
  show Sat _ _ [(0, true, u), (3, true, U64 h), (4, true, I i)] []
  refine seq ?_
  refine seq ?_
  refine region ?_
  refine cons (opv (Ev.move (.t rfl)) ?_)
  refine cons (opv (Ev.move (.t rfl)) ?_)
  refine cons (opv (Ev.len Try.underlying22 (.t rfl) (by first | exact isSl_own (by repeat first | exact List.Mem.head _ | apply List.Mem.tail) | exact fun w I => IsSl.keep0 (by assumption) I.keeps)) ?_)
  refine cons (opv (Ev.lss_i (.t rfl) (.t rfl)) ?_)
  refine nil ?_
  refine pN ?_
  first | refine condD rfl (fun hlt => ?_) (fun hge => ?_) | refine cond rfl (fun hlt => ?_) (fun hge => ?_)
  · try simp only [Bool.and_eq_true, Bool.or_eq_true, Bool.or_eq_false_iff, Bool.and_eq_false_iff, Bool.not_eq_true', Bool.not_eq_false', decide_eq_true_eq, decide_eq_false_iff_not, Decidable.not_not] at hlt
    refine skip ?_
    refine pN ?_
    refine seq ?_
    refine block ?_
    refine seq ?_
    refine region ?_
    refine cons (opv (Ev.move (.t rfl)) ?_)
    refine cons (opv (Ev.move (.t rfl)) ?_)
    refine cons (opv (Ev.indexAddr Try.underlying22 ty5 (.t rfl) (.t rfl) (by first | exact isSl_own (by repeat first | exact List.Mem.head _ | apply List.Mem.tail) | exact fun w I => IsSl.keep0 (by assumption) I.keeps) (fun _ => by omega)) ?_)
    refine cons (opv (Ev.loadS0 ty5 (.t rfl) (by first | exact isSl_own (by repeat first | exact List.Mem.head _ | apply List.Mem.tail) | exact fun w I => IsSl.keep0 (by assumption) I.keeps) (fun _ => by omega)) ?_)
    refine cons (opv (Ev.conv_u8_u64 Try.underlying23 Try.underlying5 (.t rfl)) ?_)
    refine cons (opv (Ev.assign (.t rfl)) ?_)
    refine nil ?_
    refine pN ?_
    refine seq ?_
    refine seq ?_
    refine region ?_
    refine cons (opv (Ev.move (.t rfl)) ?_)
    refine cons (opv (Ev.rem_n (.t rfl) (.c (v := I 2) rfl) (fun _ => by omega) (fun _ => by omega)) ?_)
    refine cons (opv (Ev.eql_i (.t rfl) (.c (v := I 0) rfl)) ?_)
    refine nil ?_
    refine pN ?_
    first | refine condD rfl (fun h1 => ?_) (fun h1 => ?_) | refine cond rfl (fun h1 => ?_) (fun h1 => ?_)
    · try simp only [Bool.and_eq_true, Bool.or_eq_true, Bool.or_eq_false_iff, Bool.and_eq_false_iff, Bool.not_eq_true', Bool.not_eq_false', decide_eq_true_eq, decide_eq_false_iff_not, Decidable.not_not] at h1
      have hv : (b.getD i.toNat 0).toUInt64 * 256 = shl64 (b.getD i.toNat 0).toUInt64 (sh (decide (i % 2 = 0))) := by
        rw [decide_eq_true h1]
        apply UInt64.toNat_inj.1
        rw [toNat_shl64, UInt64.toNat_mul]
        rfl
      refine region ?_
      refine cons (opv (Ev.move (.t rfl)) ?_)
      refine cons (opv (Ev.mul_u64 (.t rfl) (.c (v := U64 256) rfl)) ?_)
      refine cons (opv (Ev.assign (.t rfl)) ?_)
      refine nil ?_
      refine pN ?_
      refine region ?_
      refine cons (opv (Ev.move (.t rfl)) ?_)
      refine cons (opv (Ev.move (.t rfl)) ?_)
      refine cons (opv (Ev.add_u64 (.t rfl) (.t rfl)) ?_)
      refine cons (opv (Ev.assign (.t rfl)) ?_)
      refine nil ?_
      refine bN ?_
      refine pN ?_
      refine region ?_
      refine cons (opv (Ev.move (.t rfl)) ?_)
      refine cons (opv (Ev.add_i (.t rfl) (.c (v := I 1) rfl) (fun _ => by omega)) ?_)
      refine cons (opv (Ev.assign (.t rfl)) ?_)
      refine nil ?_
      refine pN ?_
      refine next (X := Int × UInt64) (i + 1, _) ⟨?_, ?_⟩ ?_ (by repeat first | exact Sub.nil | refine Sub.cons rfl ?_) (by repeat first | exact List.Sublist.refl _ | apply List.Sublist.cons_cons | apply List.Sublist.cons)
      · try dsimp only
        omega
      · try dsimp only
        rw [← hh]
        have e : (i + 1).toNat = i.toNat + 1 := by omega
        have e2 := sumGo_step (decide (i % 2 = 0)) b [] i.toNat h (by omega)
        rw [List.append_nil, List.append_nil] at e2
        rw [e, ← e2]
        have e3 : decide ((i + 1) % 2 = 0) = !decide (i % 2 = 0) := by
          rw [Bool.eq_iff_iff]
          simp
          omega
        rw [e3]
        exact congrArg (fun z => sumGo _ _ (h + z)) hv
      · try dsimp only
        omega
    · try simp only [Bool.and_eq_true, Bool.or_eq_true, Bool.or_eq_false_iff, Bool.and_eq_false_iff, Bool.not_eq_true', Bool.not_eq_false', decide_eq_true_eq, decide_eq_false_iff_not, Decidable.not_not] at h1
      have hv : (b.getD i.toNat 0).toUInt64 = shl64 (b.getD i.toNat 0).toUInt64 (sh (decide (i % 2 = 0))) := by
        rw [decide_eq_false h1]
        apply UInt64.toNat_inj.1
        have := (b.getD i.toNat 0).toUInt64.toNat_lt
        rw [toNat_shl64]
        show _ = _ * 2 ^ 0 % _
        omega
      refine skip ?_
      refine pN ?_
      refine region ?_
      refine cons (opv (Ev.move (.t rfl)) ?_)
      refine cons (opv (Ev.move (.t rfl)) ?_)
      refine cons (opv (Ev.add_u64 (.t rfl) (.t rfl)) ?_)
      refine cons (opv (Ev.assign (.t rfl)) ?_)
      refine nil ?_
      refine bN ?_
      refine pN ?_
      refine region ?_
      refine cons (opv (Ev.move (.t rfl)) ?_)
      refine cons (opv (Ev.add_i (.t rfl) (.c (v := I 1) rfl) (fun _ => by omega)) ?_)
      refine cons (opv (Ev.assign (.t rfl)) ?_)
      refine nil ?_
      refine pN ?_
      refine next (X := Int × UInt64) (i + 1, _) ⟨?_, ?_⟩ ?_ (by repeat first | exact Sub.nil | refine Sub.cons rfl ?_) (by repeat first | exact List.Sublist.refl _ | apply List.Sublist.cons_cons | apply List.Sublist.cons)
      · try dsimp only
        omega
      · try dsimp only
        rw [← hh]
        have e : (i + 1).toNat = i.toNat + 1 := by omega
        have e2 := sumGo_step (decide (i % 2 = 0)) b [] i.toNat h (by omega)
        rw [List.append_nil, List.append_nil] at e2
        rw [e, ← e2]
        have e3 : decide ((i + 1) % 2 = 0) = !decide (i % 2 = 0) := by
          rw [Bool.eq_iff_iff]
          simp
          omega
        rw [e3]
        exact congrArg (fun z => sumGo _ _ (h + z)) hv
      · try dsimp only
        omega
  · try simp only [Bool.and_eq_true, Bool.or_eq_true, Bool.or_eq_false_iff, Bool.and_eq_false_iff, Bool.not_eq_true', Bool.not_eq_false', decide_eq_true_eq, decide_eq_false_iff_not, Decidable.not_not] at hge
    refine exit ?_
    refine pX ?_
    refine pX ?_
    refine bX ?_
    refine pN ?_
    refine seq ?_
    refine region ?_
    refine cons (opv (Ev.move (.t rfl)) ?_)
    refine cons (callv en46 (.cons (.t rfl) .nil) (fun w I => rfold_ok _ w) ?_)
    refine cons (opv (Ev.sub_u64 (.c (v := U64 65535) rfl) (.t rfl)) ?_)
    refine cons (opv (Ev.conv_u64_u16 Try.underlying27 Try.underlying23 (.t rfl)) ?_)
    refine cons (opv (Ev.assign (.t rfl)) ?_)
    refine nil ?_
    refine pN ?_
    refine ret ?_
    refine done rfl (.tmp rfl .nil) (retE ?_)
    have e : b.drop i.toNat = [] := List.drop_eq_nil_of_le (by omega)
    rw [e] at hh
    have hh2 : h = sumGo true b 0 := hh
    rw [sub_fold, hh2]; rfl

theorem update_ok (s o n : UInt16) (w : World) : Calls Try.prog 33 #[U16 s, U16 o, U16 n] w (RetV w (U16 (updB s o n))) := by
  refine enter0 23 Try.func33 rfl rfl (Nat.le_of_ble_eq_true rfl) ?_
  refine seq ?_
  refine region ?_
  refine cons (opv (Ev.assign (.c (v := U16 0) rfl)) ?_)
  refine nil ?_
  refine pN ?_
  refine seq ?_
  refine region ?_
  refine cons (opv (Ev.move (.t rfl)) ?_)
  refine cons (opv (Ev.compl_u16 (.t rfl)) ?_)
  refine cons (opv (Ev.conv_u16_u64 Try.underlying23 Try.underlying27 (.t rfl)) ?_)
  refine cons (opv (Ev.assign (.t rfl)) ?_)
  refine nil ?_
  refine pN ?_
  refine seq ?_
  refine region ?_
  refine cons (opv (Ev.move (.t rfl)) ?_)
  refine cons (opv (Ev.move (.t rfl)) ?_)
  refine cons (opv (Ev.compl_u16 (.t rfl)) ?_)
  refine cons (opv (Ev.conv_u16_u64 Try.underlying23 Try.underlying27 (.t rfl)) ?_)
  refine cons (opv (Ev.add_u64 (.t rfl) (.t rfl)) ?_)
  refine cons (opv (Ev.assign (.t rfl)) ?_)
  refine nil ?_
  refine pN ?_
  refine seq ?_
  refine region ?_
  refine cons (opv (Ev.move (.t rfl)) ?_)
  refine cons (opv (Ev.move (.t rfl)) ?_)
  refine cons (opv (Ev.conv_u16_u64 Try.underlying23 Try.underlying27 (.t rfl)) ?_)
  refine cons (opv (Ev.add_u64 (.t rfl) (.t rfl)) ?_)
  refine cons (opv (Ev.assign (.t rfl)) ?_)
  refine nil ?_
  refine pN ?_
  refine seq ?_
  refine region ?_
  refine cons (opv (Ev.move (.t rfl)) ?_)
  refine cons (callv en45 (.cons (.t rfl) .nil) (fun w I => ofold_ok _ w) ?_)
  refine cons (opv (Ev.compl_u16 (.t rfl)) ?_)
  refine cons (opv (Ev.assign (.t rfl)) ?_)
  refine nil ?_
  refine pN ?_
  refine ret ?_
  refine done rfl (.tmp rfl .nil) (retE ?_)
  rw [compl_fold]
  unfold updB
  have hs := s.toNat_lt
  have ho := o.toNat_lt
  have hn := n.toNat_lt
  have e : ((~~~ s).toUInt64 + (~~~ o).toUInt64 + n.toUInt64).toNat = 65535 - s.toNat + (65535 - o.toNat) + n.toNat := by
    simp only [UInt64.toNat_add, UInt16.toNat_toUInt64, UInt16.toNat_not, UInt16.size]
    omega
  rw [e]; rfl

theorem rupdate_ok (s o n : UInt16) (w : World) : Calls Try.prog 34 #[U16 s, U16 o, U16 n] w (RetV w (U16 (updB s o n))) := by
  refine enter0 22 Try.func34 rfl rfl (Nat.le_of_ble_eq_true rfl) ?_
  refine seq ?_
  refine region ?_
  refine cons (opv (Ev.assign (.c (v := U16 0) rfl)) ?_)
  refine nil ?_
  refine pN ?_
  refine seq ?_
  refine region ?_
  refine cons (opv (Ev.move (.t rfl)) ?_)
  refine cons (opv (Ev.sub_u16 (.c (v := U16 65535) rfl) (.t rfl)) ?_)
  refine cons (opv (Ev.conv_u16_u64 Try.underlying23 Try.underlying27 (.t rfl)) ?_)
  refine cons (opv (Ev.assign (.t rfl)) ?_)
  refine nil ?_
  refine pN ?_
  refine seq ?_
  refine region ?_
  refine cons (opv (Ev.move (.t rfl)) ?_)
  refine cons (opv (Ev.move (.t rfl)) ?_)
  refine cons (opv (Ev.sub_u16 (.c (v := U16 65535) rfl) (.t rfl)) ?_)
  refine cons (opv (Ev.conv_u16_u64 Try.underlying23 Try.underlying27 (.t rfl)) ?_)
  refine cons (opv (Ev.add_u64 (.t rfl) (.t rfl)) ?_)
  refine cons (opv (Ev.move (.t rfl)) ?_)
  refine cons (opv (Ev.conv_u16_u64 Try.underlying23 Try.underlying27 (.t rfl)) ?_)
  refine cons (opv (Ev.add_u64 (.t rfl) (.t rfl)) ?_)
  refine cons (callv en46 (.cons (.t rfl) .nil) (fun w I => rfold_ok _ w) ?_)
  refine cons (opv (Ev.sub_u64 (.c (v := U64 65535) rfl) (.t rfl)) ?_)
  refine cons (opv (Ev.conv_u64_u16 Try.underlying27 Try.underlying23 (.t rfl)) ?_)
  refine cons (opv (Ev.assign (.t rfl)) ?_)
  refine nil ?_
  refine pN ?_
  refine ret ?_
  refine done rfl (.tmp rfl .nil) (retE ?_)
  rw [sub_fold]
  unfold updB
  have hs := s.toNat_lt
  have ho := o.toNat_lt
  have hn := n.toNat_lt
  have e5 : UInt16.toNat 65535 = 65535 := rfl
  have e : (((65535 : UInt16) - s).toUInt64 + ((65535 : UInt16) - o).toUInt64 + n.toUInt64).toNat = 65535 - s.toNat + (65535 - o.toNat) + n.toNat := by
    simp only [UInt64.toNat_add, UInt16.toNat_toUInt64, UInt16.toNat_sub, e5]
    omega
  rw [e]; rfl

/-- Two sums, the same, or one of them 0 and the other one 65535. -/
def nearB (a b : UInt16) : Bool := decide (a = b) || (decide (a + b = 65535) && (decide (a = 0) || decide (b = 0)))

theorem near_ok (a b : UInt16) (w : World) : Calls Try.prog 35 #[U16 a, U16 b] w (RetV w (.bool (nearB a b))) := by
  refine enter0 22 Try.func35 rfl rfl (Nat.le_of_ble_eq_true rfl) ?_
  refine seq ?_
  refine region ?_
  refine cons (opv (Ev.assign (.c (v := .bool false) rfl)) ?_)
  refine nil ?_
  refine pN ?_
  refine seq ?_
  refine region ?_
  refine cons (opv (Ev.move (.t rfl)) ?_)
  refine cons (opv (Ev.move (.t rfl)) ?_)
  refine cons (opv (Ev.eql_u16 (.t rfl) (.t rfl)) ?_)
  refine cons (opv (Ev.move (.t rfl)) ?_)
  refine cons (opg rfl rfl (Ev.move (.t rfl)) ?_)
  refine cons (opg rfl rfl (Ev.move (.t rfl)) ?_)
  refine cons (opg rfl rfl (Ev.add_u16 (.g rfl id) (.g rfl id)) ?_)
  refine cons (opg rfl rfl (Ev.eql_u16 (.g rfl id) (.c (v := U16 65535) rfl)) ?_)
  refine cons (opg rfl rfl (Ev.move (.g rfl id)) ?_)
  refine cons (opg rfl rfl (Ev.move (.t rfl)) ?_)
  refine cons (opg rfl rfl (Ev.eql_u16 (.g rfl id) (.c (v := U16 0) rfl)) ?_)
  refine cons (opg rfl rfl (Ev.move (.g rfl id)) ?_)
  refine cons (opg rfl rfl (Ev.move (.t rfl)) ?_)
  refine cons (opg rfl rfl (Ev.eql_u16 (.g rfl id) (.c (v := U16 0) rfl)) ?_)
  refine cons (opg rfl rfl (Ev.pickO (.g rfl id) (.c (v := .bool true) rfl) (fun {_} h => by cases h; rfl) ⟨_, rfl⟩ (by intro h1 h; first | (rw [h] <;> rfl) | (rw [h, h1] <;> rfl) | simp_all)) ?_)
  refine cons (opg rfl rfl (Ev.pickA (.g rfl id) (fun {_} h => by cases h; rfl) ⟨_, rfl⟩ (by intro h1 h; first | (rw [h] <;> rfl) | (rw [h, h1] <;> rfl) | simp_all) (.c (v := .bool false) rfl)) ?_)
  refine cons (opv (Ev.pickO (.t rfl) (.c (v := .bool true) rfl) (fun {_} h => by cases h; rfl) ⟨_, rfl⟩ (by intro h1 h; first | (rw [h] <;> rfl) | (rw [h, h1] <;> rfl) | simp_all)) ?_)
  refine cons (opv (Ev.assign (.t rfl)) ?_)
  refine nil ?_
  refine pN ?_
  refine ret ?_
  refine done rfl (.tmp rfl .nil) (retE ?_)
  rfl

theorem rhash_ok (u : Value) (b : List UInt8) (w : World) (hb : IsSl u8E w u b) : Calls Try.prog 32 #[u] w (RetV w (U64 (hashB 14695981039346656037 b))) := by
  have hbl := hb.le
  refine enter0 20 Try.func32 rfl rfl (Nat.le_of_ble_eq_true rfl) ?_
  refine seq ?_
  refine region ?_
  refine cons (opv (Ev.assign (.c (v := U64 0) rfl)) ?_)
  refine nil ?_
  refine pN ?_
  refine seq ?_
  refine region ?_
  refine cons (opv (Ev.assign (.c (v := U64 14695981039346656037) rfl)) ?_)
  refine nil ?_
  refine pN ?_
  refine seq ?_
  refine seq ?_
  refine region ?_
  refine cons (opv (Ev.assign (.c (v := I 0) rfl)) ?_)
  refine nil ?_
  refine pN ?_
  refine block ?_
  refine loop (X := Int × UInt64) (fun x : Int × UInt64 => (0 ≤ x.1 ∧ x.1 ≤ b.length) ∧ (hashB x.2 (b.drop x.1.toNat) = hashB 14695981039346656037 b)) (fun x : Int × UInt64 => [(0, true, u), (3, true, U64 x.2), (4, true, I x.1)]) (fun x : Int × UInt64 => []) (fun x : Int × UInt64 => (b.length - x.1).toNat) (0, _) ⟨?_, ?_⟩ (by repeat first | exact Sub.nil | refine Sub.cons rfl ?_) (by repeat first | exact List.Sublist.refl _ | apply List.Sublist.cons_cons | apply List.Sublist.cons) (fun x hx => ?_)
  · omega
  · rfl
  obtain ⟨i, h⟩ := x
  obtain ⟨hi, hh⟩ : (0 ≤ i ∧ i ≤ b.length) ∧ (hashB h (b.drop i.toNat) = hashB 14695981039346656037 b) := hx
  show Sat _ _ [(0, true, u), (3, true, U64 h), (4, true, I i)] []
  refine seq ?_
  refine seq ?_
  refine region ?_
  refine cons (opv (Ev.move (.t rfl)) ?_)
  refine cons (opv (Ev.move (.t rfl)) ?_)
  refine cons (opv (Ev.len Try.underlying22 (.t rfl) (by first | exact isSl_own (by repeat first | exact List.Mem.head _ | apply List.Mem.tail) | exact fun w I => IsSl.keep0 (by assumption) I.keeps)) ?_)
  refine cons (opv (Ev.lss_i (.t rfl) (.t rfl)) ?_)
  refine nil ?_
  refine pN ?_
  first | refine condD rfl (fun hlt => ?_) (fun hge => ?_) | refine cond rfl (fun hlt => ?_) (fun hge => ?_)
  · try simp only [Bool.and_eq_true, Bool.or_eq_true, Bool.or_eq_false_iff, Bool.and_eq_false_iff, Bool.not_eq_true', Bool.not_eq_false', decide_eq_true_eq, decide_eq_false_iff_not, Decidable.not_not] at hlt
    refine skip ?_
    refine pN ?_
    refine seq ?_
    refine block ?_
    refine region ?_
    refine cons (opv (Ev.move (.t rfl)) ?_)
    refine cons (opv (Ev.move (.t rfl)) ?_)
    refine cons (opv (Ev.move (.t rfl)) ?_)
    refine cons (opv (Ev.indexAddr Try.underlying22 ty5 (.t rfl) (.t rfl) (by first | exact isSl_own (by repeat first | exact List.Mem.head _ | apply List.Mem.tail) | exact fun w I => IsSl.keep0 (by assumption) I.keeps) (fun _ => by omega)) ?_)
    refine cons (opv (Ev.loadS0 ty5 (.t rfl) (by first | exact isSl_own (by repeat first | exact List.Mem.head _ | apply List.Mem.tail) | exact fun w I => IsSl.keep0 (by assumption) I.keeps) (fun _ => by omega)) ?_)
    refine cons (opv (Ev.conv_u8_u64 Try.underlying23 Try.underlying5 (.t rfl)) ?_)
    refine cons (opv (Ev.xor_u64 (.t rfl) (.t rfl)) ?_)
    refine cons (opv (Ev.mul_u64 (.t rfl) (.c (v := U64 1099511628211) rfl)) ?_)
    refine cons (opv (Ev.assign (.t rfl)) ?_)
    refine nil ?_
    refine bN ?_
    refine pN ?_
    refine region ?_
    refine cons (opv (Ev.move (.t rfl)) ?_)
    refine cons (opv (Ev.add_i (.t rfl) (.c (v := I 1) rfl) (fun _ => by omega)) ?_)
    refine cons (opv (Ev.assign (.t rfl)) ?_)
    refine nil ?_
    refine pN ?_
    refine next (X := Int × UInt64) (i + 1, _) ⟨?_, ?_⟩ ?_ (by repeat first | exact Sub.nil | refine Sub.cons rfl ?_) (by repeat first | exact List.Sublist.refl _ | apply List.Sublist.cons_cons | apply List.Sublist.cons)
    · try dsimp only
      omega
    · try dsimp only
      rw [← hh]
      have e : (i + 1).toNat = i.toNat + 1 := by omega
      have e2 := hashB_step h b [] i.toNat (by omega)
      rw [List.append_nil, List.append_nil] at e2
      rw [e]
      exact e2
    · try dsimp only
      omega
  · try simp only [Bool.and_eq_true, Bool.or_eq_true, Bool.or_eq_false_iff, Bool.and_eq_false_iff, Bool.not_eq_true', Bool.not_eq_false', decide_eq_true_eq, decide_eq_false_iff_not, Decidable.not_not] at hge
    refine exit ?_
    refine pX ?_
    refine pX ?_
    refine bX ?_
    refine pN ?_
    refine seq ?_
    refine region ?_
    refine cons (opv (Ev.move (.t rfl)) ?_)
    refine cons (opv (Ev.assign (.t rfl)) ?_)
    refine nil ?_
    refine pN ?_
    refine ret ?_
    refine done rfl (.tmp rfl .nil) (retE ?_)
    have e : b.drop i.toNat = [] := List.drop_eq_nil_of_le (by omega)
    rw [e] at hh
    rw [← hh]; rfl
end Go.Proofs.Ytcmpdhggeilkfaa
