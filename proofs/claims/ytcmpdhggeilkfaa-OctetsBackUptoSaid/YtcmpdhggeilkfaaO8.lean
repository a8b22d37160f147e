/- octets -/
import Derived.Test.YtcmpdhggeilkfaaO7
set_option linter.unusedVariables false
set_option linter.unusedSimpArgs false
namespace Go.Proofs.Ytcmpdhggeilkfaa
open Go Go.Gx

/-- A bit of a number. -/
def bn (x k : Nat) : Nat := x / 2 ^ k % 2
theorem bn_xor (x y k : Nat) : bn (x ^^^ y) k = (bn x k + bn y k) % 2 := by
  have h := Nat.testBit_xor x y k
  simp only [Nat.testBit_eq_decide_div_mod_eq] at h
  unfold bn
  have h1 : x / 2 ^ k % 2 < 2 := Nat.mod_lt _ (by decide)
  have h2 : y / 2 ^ k % 2 < 2 := Nat.mod_lt _ (by decide)
  have h3 : (x ^^^ y) / 2 ^ k % 2 < 2 := Nat.mod_lt _ (by decide)
  generalize x / 2 ^ k % 2 = p at *
  generalize y / 2 ^ k % 2 = q at *
  generalize (x ^^^ y) / 2 ^ k % 2 = r at *
  have hp : p = 0 ∨ p = 1 := by omega
  have hq : q = 0 ∨ q = 1 := by omega
  have hr : r = 0 ∨ r = 1 := by omega
  rcases hp with rfl | rfl <;> rcases hq with rfl | rfl <;> rcases hr with rfl | rfl <;> simp_all
theorem bitU_toNat (b : List UInt8) (i : Int) : (bitU b i).toNat = bn (b.getD (i / 8).toNat 0).toNat (7 - i % 8).toNat := by
  unfold bitU bn
  rw [UInt8.toNat_and, toNat_shr8]
  have e : UInt8.toNat 1 = 1 := rfl
  rw [e, Nat.and_one_is_mod]
set_option maxRecDepth 100000 in
theorem len8_bits (x : UInt8) (h : x ≠ 0) : 1 ≤ (len8 x).toNat ∧ (len8 x).toNat ≤ 8 ∧ (∀ s, s < 8 - (len8 x).toNat → bn x.toNat (7 - s) = 0) ∧ bn x.toNat (7 - (8 - (len8 x).toNat)) = 1 := by
  have h1 : ∀ n : Fin 256, n.val ≠ 0 → 1 ≤ (len8 (UInt8.ofNat n.val)).toNat ∧ (len8 (UInt8.ofNat n.val)).toNat ≤ 8 ∧ (∀ s : Fin 8, s.val < 8 - (len8 (UInt8.ofNat n.val)).toNat → bn n.val (7 - s.val) = 0) ∧ bn n.val (7 - (8 - (len8 (UInt8.ofNat n.val)).toNat)) = 1 := by decide +kernel
  have h2 := h1 ⟨x.toNat, x.toNat_lt⟩ (fun e => h (UInt8.toNat_inj.1 e))
  simp only [UInt8.ofNat_toNat] at h2
  exact ⟨h2.1, h2.2.1, fun s hs => h2.2.2.1 ⟨s, by omega⟩ hs, h2.2.2.2⟩
theorem comI_le : ∀ a b : List UInt8, comI a b ≤ a.length ∧ comI a b ≤ b.length
  | [], b => by simp [comI]
  | x :: a, [] => by simp [comI]
  | x :: a, y :: b => by
    have := comI_le a b
    simp only [comI, List.length_cons]
    split <;> omega
theorem comI_eq : ∀ (a b : List UInt8) (j : Nat), j < comI a b → a.getD j 0 = b.getD j 0
  | [], b, j, h => by simp [comI] at h
  | x :: a, [], j, h => by simp [comI] at h
  | x :: a, y :: b, j, h => by
    simp only [comI] at h
    split at h
    · rename_i e
      cases j with
      | zero => simpa using e
      | succ j => simpa [List.getD] using comI_eq a b j (by omega)
    · omega
theorem comI_ne : ∀ (a b : List UInt8), comI a b < a.length → comI a b < b.length → a.getD (comI a b) 0 ≠ b.getD (comI a b) 0
  | [], b, h, _ => by simp at h
  | x :: a, [], _, h => by simp at h
  | x :: a, y :: b, h1, h2 => by
    simp only [comI, List.length_cons] at h1 h2 ⊢
    split
    · rename_i e
      rw [if_pos e] at h1 h2
      simpa [List.getD] using comI_ne a b (by omega) (by omega)
    · rename_i e
      simpa using e
/-- n is how many first bits are alike. -/
structure IsCom (a b : List UInt8) (n : Int) : Prop where
  p : 0 ≤ n
  la : n ≤ 8 * a.length
  lb : n ≤ 8 * b.length
  eq : ∀ i : Int, 0 ≤ i → i < n → bitU a i = bitU b i
  ne : n < 8 * a.length → n < 8 * b.length → bitU a n ≠ bitU b n
theorem commonB_is (a b : List UInt8) : IsCom a b (commonB a b) := by
  obtain ⟨h1, h2⟩ := comI_le a b
  have heq := comI_eq a b
  have hne := comI_ne a b
  unfold commonB
  generalize comI a b = c at *
  split
  · rename_i hc
    refine ⟨by omega, by omega, by omega, fun i h0 hi => ?_, fun h3 h4 => by omega⟩
    unfold bitU
    rw [heq (i / 8).toNat (by omega)]
  · rename_i hc
    have hx := hne (by omega) (by omega)
    have hx2 : a.getD c 0 ^^^ b.getD c 0 ≠ 0 := fun e => hx (by
      have e2 := congrArg UInt8.toNat e
      rw [UInt8.toNat_xor] at e2
      exact UInt8.toNat_inj.1 (xor_zero e2))
    obtain ⟨l1, l2, l3, l4⟩ := len8_bits _ hx2
    generalize hl : len8 (a.getD c 0 ^^^ b.getD c 0) = l at *
    have hlo : ∀ s : Nat, s < 8 - l.toNat → bn (a.getD c 0).toNat (7 - s) = bn (b.getD c 0).toNat (7 - s) := fun s hs => by
      have e := l3 s hs
      rw [UInt8.toNat_xor, bn_xor] at e
      have ha : bn (a.getD c 0).toNat (7 - s) < 2 := Nat.mod_lt _ (by decide)
      have hb : bn (b.getD c 0).toNat (7 - s) < 2 := Nat.mod_lt _ (by decide)
      omega
    have hhi : bn (a.getD c 0).toNat (7 - (8 - l.toNat)) ≠ bn (b.getD c 0).toNat (7 - (8 - l.toNat)) := fun e => by
      rw [UInt8.toNat_xor, bn_xor, e] at l4
      omega
    refine ⟨by omega, by omega, by omega, fun i h0 hi => ?_, fun h3 h4 => fun e => ?_⟩
    · by_cases hic : i / 8 < c
      · unfold bitU
        rw [heq (i / 8).toNat (by omega)]
      · have e1 : (i / 8).toNat = c := by omega
        apply UInt8.toNat_inj.1
        rw [bitU_toNat, bitU_toNat, e1]
        have e2 : (7 - i % 8).toNat = 7 - (i % 8).toNat := by omega
        rw [e2]
        exact hlo _ (by omega)
    · have e3 := congrArg UInt8.toNat e
      have e1 : ((8 * (c : Int) + (8 - (l.toNat : Int))) / 8).toNat = c := by omega
      have e2 : (7 - (8 * (c : Int) + (8 - (l.toNat : Int))) % 8).toNat = 7 - (8 - l.toNat) := by omega
      rw [bitU_toNat, bitU_toNat, e1, e2] at e3
      exact hhi e3
theorem IsCom.uniq {a b : List UInt8} {n m : Int} (h : IsCom a b n) (k : IsCom a b m) : n = m := by
  rcases Int.lt_trichotomy n m with hl | he | hg
  · exact absurd (k.eq n h.p hl) (h.ne (by have := k.la; omega) (by have := k.lb; omega))
  · exact he
  · exact absurd (h.eq m k.p hg) (k.ne (by have := h.la; omega) (by have := h.lb; omega))
theorem IsCom.symm {a b : List UInt8} {n : Int} (h : IsCom a b n) : IsCom b a n := ⟨h.p, h.lb, h.la, fun i h0 hi => (h.eq i h0 hi).symm, fun h1 h2 e => h.ne h2 h1 e.symm⟩
theorem IsCom.tri {a b c : List UInt8} {n m k : Int} (h : IsCom a b n) (h' : IsCom b c m) (h'' : IsCom a c k) : min n m ≤ k := by
  rcases Int.lt_or_le k (min n m) with hl | hl
  · have e1 := h.eq k h''.p (by omega)
    have e2 := h'.eq k h''.p (by omega)
    exact absurd (e1.trans e2) (h''.ne (by have := h.la; omega) (by have := h'.lb; omega))
  · exact hl
theorem bits_one (b : List UInt8) (i : Int) (h0 : 0 ≤ i) (h1 : i < 8 * b.length) : bitsB b i 1 = ((bitU b i).toUInt64, 0) := by
  unfold bitsB
  rw [if_neg (by omega), if_neg (by omega)]
  show (shl64 0 1 ||| (bitU b (i + 0)).toUInt64, 0) = _
  rw [Int.add_zero]
  congr 1
  apply UInt64.toNat_inj.1
  rw [UInt64.toNat_or, toNat_shl64]
  simp
theorem bits_none (b : List UInt8) (i : Int) (h1 : 8 * b.length ≤ i) : bitsB b i 1 = (0, 5) := by
  unfold bitsB
  rw [if_neg (by omega), if_pos (by omega)]

theorem en37 : Enters Try.prog 37 := Enters.mk' (by kernel_rfl)

theorem en36 : Enters Try.prog 36 := Enters.mk' (by kernel_rfl)

theorem OctetsCommon_walk (u v z : Value) (a b c : List UInt8) (w : World) (ha : IsSl u8E w u a) (hb : IsSl u8E w v b) (hc : IsSl u8E w z c) (hal : a.length ≤ 140737488351232) (hbl : b.length ≤ 140737488351232) (hcl : c.length ≤ 140737488351232) : Calls Try.prog 10 #[u, v, z] w (RetV w (.bool true)) := by
  have hab := commonB_is a b
  have hbc := commonB_is b c
  have hac := commonB_is a c
  have hba := (commonB_is b a).symm.uniq hab
  have htri := hab.tri hbc hac
  have hp := hab.p
  have hla := hab.la
  have hlb := hab.lb
  refine enter0 107 Try.func10 rfl rfl (Nat.le_of_ble_eq_true rfl) ?_
  refine seq ?_
  refine region ?_
  refine cons (opv (Ev.assign (.c (v := .bool false) rfl)) ?_)
  refine nil ?_
  refine pN ?_
  refine seq ?_
  refine seq ?_
  refine region ?_
  refine cons (callv en22 .nil (fun w I => works_ok w) ?_)
  refine cons (opv (Ev.not (.t rfl)) ?_)
  refine nil ?_
  refine pN ?_
  first | refine condD rfl (fun h0 => ?_) (fun h0 => ?_) | refine cond rfl (fun h0 => ?_) (fun h0 => ?_)
  · simp at h0
  · refine skip ?_
    refine pN ?_
    refine seq ?_
    refine region ?_
    refine cons (opv (Ev.move (.t rfl)) ?_)
    refine cons (opv (Ev.move (.t rfl)) ?_)
    refine cons (callv en37 (.cons (.t rfl) (.cons (.t rfl) .nil)) (fun w I => common_ok _ _ _ _ w (by first | exact isSl_own (by repeat first | exact List.Mem.head _ | apply List.Mem.tail) w I | exact IsSl.keep0 (by assumption) I.keeps) (by first | exact isSl_own (by repeat first | exact List.Mem.head _ | apply List.Mem.tail) w I | exact IsSl.keep0 (by assumption) I.keeps) (by first | omega | (simp; done))) ?_)
    refine cons (opv (Ev.move (.t rfl)) ?_)
    refine cons (opv (Ev.move (.t rfl)) ?_)
    refine cons (callv en37 (.cons (.t rfl) (.cons (.t rfl) .nil)) (fun w I => common_ok _ _ _ _ w (by first | exact isSl_own (by repeat first | exact List.Mem.head _ | apply List.Mem.tail) w I | exact IsSl.keep0 (by assumption) I.keeps) (by first | exact isSl_own (by repeat first | exact List.Mem.head _ | apply List.Mem.tail) w I | exact IsSl.keep0 (by assumption) I.keeps) (by first | omega | (simp; done))) ?_)
    refine cons (opv (Ev.move (.t rfl)) ?_)
    refine cons (opv (Ev.move (.t rfl)) ?_)
    refine cons (callv en37 (.cons (.t rfl) (.cons (.t rfl) .nil)) (fun w I => common_ok _ _ _ _ w (by first | exact isSl_own (by repeat first | exact List.Mem.head _ | apply List.Mem.tail) w I | exact IsSl.keep0 (by assumption) I.keeps) (by first | exact isSl_own (by repeat first | exact List.Mem.head _ | apply List.Mem.tail) w I | exact IsSl.keep0 (by assumption) I.keeps) (by first | omega | (simp; done))) ?_)
    refine cons (opv (Ev.assign (.t rfl)) ?_)
    refine cons (opv (Ev.assign (.t rfl)) ?_)
    refine cons (opv (Ev.assign (.t rfl)) ?_)
    refine nil ?_
    refine pN ?_
    refine seq ?_
    refine seq ?_
    refine region ?_
    refine cons (opv (Ev.move (.t rfl)) ?_)
    refine cons (opv (Ev.move (.t rfl)) ?_)
    refine cons (opv (Ev.move (.t rfl)) ?_)
    refine cons (callv en37 (.cons (.t rfl) (.cons (.t rfl) .nil)) (fun w I => common_ok _ _ _ _ w (by first | exact isSl_own (by repeat first | exact List.Mem.head _ | apply List.Mem.tail) w I | exact IsSl.keep0 (by assumption) I.keeps) (by first | exact isSl_own (by repeat first | exact List.Mem.head _ | apply List.Mem.tail) w I | exact IsSl.keep0 (by assumption) I.keeps) (by first | omega | (simp; done))) ?_)
    refine cons (opv (Ev.neq_i (.t rfl) (.t rfl)) ?_)
    refine cons (opv (Ev.move (.t rfl)) ?_)
    refine cons (opg rfl rfl (Ev.move (.t rfl)) ?_)
    refine cons (opg rfl rfl (Ev.move (.t rfl)) ?_)
    refine cons (opg rfl rfl (Ev.move (.t rfl)) ?_)
    refine cons (opg rfl rfl (Ev.min_i (.g rfl id) (.g rfl id)) ?_)
    refine cons (opg rfl rfl (Ev.lss_i (.g rfl id) (.g rfl id)) ?_)
    refine cons (opv (Ev.pickO (.t rfl) (.c (v := .bool true) rfl) (fun {_} h => by cases h; rfl) ⟨_, rfl⟩ (by intro h1 h; first | (rw [h] <;> rfl) | (rw [h, h1] <;> rfl) | simp_all)) ?_)
    refine cons (opv (Ev.move (.t rfl)) ?_)
    refine cons (opg rfl rfl (Ev.move (.t rfl)) ?_)
    refine cons (opg rfl rfl (Ev.lss_i (.g rfl id) (.c (v := I 0) rfl)) ?_)
    refine cons (opv (Ev.pickO (.t rfl) (.c (v := .bool true) rfl) (fun {_} h => by cases h; rfl) ⟨_, rfl⟩ (by intro h1 h; first | (rw [h] <;> rfl) | (rw [h, h1] <;> rfl) | simp_all)) ?_)
    refine cons (opv (Ev.move (.t rfl)) ?_)
    refine cons (opg rfl rfl (Ev.move (.t rfl)) ?_)
    refine cons (opg rfl rfl (Ev.move (.t rfl)) ?_)
    refine cons (opg rfl rfl (Ev.len Try.underlying22 (.g rfl id) (by first | exact isSl_own (by repeat first | exact List.Mem.head _ | apply List.Mem.tail) | exact fun w I => IsSl.keep0 (by assumption) I.keeps)) ?_)
    refine cons (opg rfl rfl (Ev.move (.t rfl)) ?_)
    refine cons (opg rfl rfl (Ev.len Try.underlying22 (.g rfl id) (by first | exact isSl_own (by repeat first | exact List.Mem.head _ | apply List.Mem.tail) | exact fun w I => IsSl.keep0 (by assumption) I.keeps)) ?_)
    refine cons (opg rfl rfl (Ev.min_i (.g rfl id) (.g rfl id)) ?_)
    refine cons (opg rfl rfl (Ev.mul_i (.c (v := I 8) rfl) (.g rfl id) (fun _ => by rename_i hg; omega)) ?_)
    refine cons (opg rfl rfl (Ev.gtr_i (.g rfl id) (.g rfl id)) ?_)
    refine cons (opv (Ev.pickO (.t rfl) (.c (v := .bool true) rfl) (fun {_} h => by cases h; rfl) ⟨_, rfl⟩ (by intro h1 h; first | (rw [h] <;> rfl) | (rw [h, h1] <;> rfl) | simp_all)) ?_)
    refine nil ?_
    refine pN ?_
    first | refine condD rfl (fun h1 => ?_) (fun h1 => ?_) | refine cond rfl (fun h1 => ?_) (fun h1 => ?_)
    · try simp only [Bool.and_eq_true, Bool.or_eq_true, Bool.or_eq_false_iff, Bool.and_eq_false_iff, Bool.not_eq_true', Bool.not_eq_false', decide_eq_true_eq, decide_eq_false_iff_not, Decidable.not_not] at h1
      exfalso
      omega
    · try simp only [Bool.and_eq_true, Bool.or_eq_true, Bool.or_eq_false_iff, Bool.and_eq_false_iff, Bool.not_eq_true', Bool.not_eq_false', decide_eq_true_eq, decide_eq_false_iff_not, Decidable.not_not] at h1
      refine skip ?_
      refine pN ?_
      refine seq ?_
      refine seq ?_
      refine region ?_
      refine cons (opv (Ev.assign (.c (v := I 0) rfl)) ?_)
      refine nil ?_
      refine pN ?_
      refine block ?_
      refine loop (X := Int) (fun x : Int => (0 ≤ x ∧ x ≤ commonB a b)) (fun x : Int => [(0, true, u), (1, true, v), (7, true, I (commonB a b)), (10, true, I x)]) (fun x : Int => []) (fun x : Int => (commonB a b - x).toNat) (0) ?_ (by repeat first | exact Sub.nil | refine Sub.cons rfl ?_) (by repeat first | exact List.Sublist.refl _ | apply List.Sublist.cons_cons | apply List.Sublist.cons) (fun x hx => ?_)
      · omega
      obtain ⟨i, rfl⟩ : ∃ y, y = x := ⟨x, rfl⟩
      have hi : 0 ≤ i ∧ i ≤ commonB a b := hx
      clear hx
      show Sat _ _ [(0, true, u), (1, true, v), (7, true, I (commonB a b)), (10, true, I i)] []
      refine seq ?_
      refine seq ?_
      refine region ?_
      refine cons (opv (Ev.move (.t rfl)) ?_)
      refine cons (opv (Ev.move (.t rfl)) ?_)
      refine cons (opv (Ev.lss_i (.t rfl) (.t rfl)) ?_)
      refine nil ?_
      refine pN ?_
      first | refine condD rfl (fun hlt => ?_) (fun hge => ?_) | refine cond rfl (fun hlt => ?_) (fun hge => ?_)
      · try simp only [Bool.and_eq_true, Bool.or_eq_true, Bool.or_eq_false_iff, Bool.and_eq_false_iff, Bool.not_eq_true', Bool.not_eq_false', decide_eq_true_eq, decide_eq_false_iff_not, Decidable.not_not] at hlt
        refine skip ?_
        refine pN ?_
        refine seq ?_
        refine block ?_
        refine seq ?_
        refine region ?_
        have ea := bits_one a i (by omega) (by omega)
        have eb := bits_one b i (by omega) (by omega)
        have hqq := hab.eq i (by omega) (by omega)
        refine cons (opv (Ev.move (.t rfl)) ?_)
        refine cons (opv (Ev.move (.t rfl)) ?_)
        refine cons (callv en36 (.cons (.t rfl) (.cons (.t rfl) (.cons (.c (v := I 1) rfl) .nil))) (fun w I => bits_ok _ _ _ _ w (by first | exact isSl_own (by repeat first | exact List.Mem.head _ | apply List.Mem.tail) w I | exact IsSl.keep0 (by assumption) I.keeps) (by first | omega | (simp; done)) (by first | assumption | (unfold Fit; omega)) (by first | assumption | (unfold Fit; omega))) ?_)
        refine cons (opv (Ev.move (.t rfl)) ?_)
        refine cons (opv (Ev.extract (.t rfl) rfl) ?_)
        refine cons (opv (Ev.extract (.t rfl) rfl) ?_)
        refine cons (opv (Ev.assign (.t rfl)) ?_)
        refine cons (opv (Ev.assign (.t rfl)) ?_)
        refine nil ?_
        refine pN ?_
        refine seq ?_
        refine region ?_
        refine cons (opv (Ev.move (.t rfl)) ?_)
        refine cons (opv (Ev.move (.t rfl)) ?_)
        refine cons (callv en36 (.cons (.t rfl) (.cons (.t rfl) (.cons (.c (v := I 1) rfl) .nil))) (fun w I => bits_ok _ _ _ _ w (by first | exact isSl_own (by repeat first | exact List.Mem.head _ | apply List.Mem.tail) w I | exact IsSl.keep0 (by assumption) I.keeps) (by first | omega | (simp; done)) (by first | assumption | (unfold Fit; omega)) (by first | assumption | (unfold Fit; omega))) ?_)
        refine cons (opv (Ev.move (.t rfl)) ?_)
        refine cons (opv (Ev.extract (.t rfl) rfl) ?_)
        refine cons (opv (Ev.extract (.t rfl) rfl) ?_)
        refine cons (opv (Ev.assign (.t rfl)) ?_)
        refine cons (opv (Ev.assign (.t rfl)) ?_)
        refine nil ?_
        refine pN ?_
        refine seq ?_
        refine region ?_
        refine cons (opv (Ev.move (.t rfl)) ?_)
        refine cons (opv (Ev.neq_i (.t rfl) (.c (v := I 0) rfl)) ?_)
        refine cons (opv (Ev.move (.t rfl)) ?_)
        refine cons (opg rfl rfl (Ev.move (.t rfl)) ?_)
        refine cons (opg rfl rfl (Ev.neq_i (.g rfl id) (.c (v := I 0) rfl)) ?_)
        refine cons (opv (Ev.pickO (.t rfl) (.c (v := .bool true) rfl) (fun {_} h => by cases h; rfl) ⟨_, rfl⟩ (by intro h1 h; first | (rw [h] <;> rfl) | (rw [h, h1] <;> rfl) | simp_all)) ?_)
        refine cons (opv (Ev.move (.t rfl)) ?_)
        refine cons (opg rfl rfl (Ev.move (.t rfl)) ?_)
        refine cons (opg rfl rfl (Ev.move (.t rfl)) ?_)
        refine cons (opg rfl rfl (Ev.neq_u64 (.g rfl id) (.g rfl id)) ?_)
        refine cons (opv (Ev.pickO (.t rfl) (.c (v := .bool true) rfl) (fun {_} h => by cases h; rfl) ⟨_, rfl⟩ (by intro h1 h; first | (rw [h] <;> rfl) | (rw [h, h1] <;> rfl) | simp_all)) ?_)
        refine nil ?_
        refine pN ?_
        first | refine condD rfl (fun h3 => ?_) (fun h3 => ?_) | refine cond rfl (fun h3 => ?_) (fun h3 => ?_)
        · exfalso
          rw [ea, eb, hqq] at h3
          simp at h3
        · refine skip ?_
          refine bN ?_
          refine pN ?_
          refine region ?_
          refine cons (opv (Ev.move (.t rfl)) ?_)
          refine cons (opv (Ev.add_i (.t rfl) (.c (v := I 1) rfl) (fun _ => by omega)) ?_)
          refine cons (opv (Ev.assign (.t rfl)) ?_)
          refine nil ?_
          refine pN ?_
          refine next (X := Int) (i + 1) ?_ ?_ (by repeat first | exact Sub.nil | refine Sub.cons rfl ?_) (by repeat first | exact List.Sublist.refl _ | apply List.Sublist.cons_cons | apply List.Sublist.cons)
          · try dsimp only
            omega
          · try dsimp only
            omega
      · try simp only [Bool.and_eq_true, Bool.or_eq_true, Bool.or_eq_false_iff, Bool.and_eq_false_iff, Bool.not_eq_true', Bool.not_eq_false', decide_eq_true_eq, decide_eq_false_iff_not, Decidable.not_not] at hge
        refine exit ?_
        refine pX ?_
        refine pX ?_
        refine bX ?_
        refine pN ?_
        refine seq ?_
        refine region ?_
        refine cons (opv (Ev.move (.t rfl)) ?_)
        refine cons (opv (Ev.move (.t rfl)) ?_)
        refine cons (callv en36 (.cons (.t rfl) (.cons (.t rfl) (.cons (.c (v := I 1) rfl) .nil))) (fun w I => bits_ok _ _ _ _ w (by first | exact isSl_own (by repeat first | exact List.Mem.head _ | apply List.Mem.tail) w I | exact IsSl.keep0 (by assumption) I.keeps) (by first | omega | (simp; done)) (by first | assumption | (unfold Fit; omega)) (by first | assumption | (unfold Fit; omega))) ?_)
        refine cons (opv (Ev.move (.t rfl)) ?_)
        refine cons (opv (Ev.extract (.t rfl) rfl) ?_)
        refine cons (opv (Ev.extract (.t rfl) rfl) ?_)
        refine cons (opv (Ev.assign (.t rfl)) ?_)
        refine cons (opv (Ev.assign (.t rfl)) ?_)
        refine nil ?_
        refine pN ?_
        refine seq ?_
        refine region ?_
        refine cons (opv (Ev.move (.t rfl)) ?_)
        refine cons (opv (Ev.move (.t rfl)) ?_)
        refine cons (callv en36 (.cons (.t rfl) (.cons (.t rfl) (.cons (.c (v := I 1) rfl) .nil))) (fun w I => bits_ok _ _ _ _ w (by first | exact isSl_own (by repeat first | exact List.Mem.head _ | apply List.Mem.tail) w I | exact IsSl.keep0 (by assumption) I.keeps) (by first | omega | (simp; done)) (by first | assumption | (unfold Fit; omega)) (by first | assumption | (unfold Fit; omega))) ?_)
        refine cons (opv (Ev.move (.t rfl)) ?_)
        refine cons (opv (Ev.extract (.t rfl) rfl) ?_)
        refine cons (opv (Ev.extract (.t rfl) rfl) ?_)
        refine cons (opv (Ev.assign (.t rfl)) ?_)
        refine cons (opv (Ev.assign (.t rfl)) ?_)
        refine nil ?_
        refine pN ?_
        refine seq ?_
        refine region ?_
        refine cons (opv (Ev.move (.t rfl)) ?_)
        refine cons (opv (Ev.neq_i (.t rfl) (.c (v := I 0) rfl)) ?_)
        refine cons (opv (Ev.move (.t rfl)) ?_)
        refine cons (opg rfl rfl (Ev.move (.t rfl)) ?_)
        refine cons (opg rfl rfl (Ev.neq_i (.g rfl id) (.c (v := I 0) rfl)) ?_)
        refine cons (opv (Ev.pickO (.t rfl) (.c (v := .bool true) rfl) (fun {_} h => by cases h; rfl) ⟨_, rfl⟩ (by intro h1 h; first | (rw [h] <;> rfl) | (rw [h, h1] <;> rfl) | simp_all)) ?_)
        refine cons (opv (Ev.move (.t rfl)) ?_)
        refine cons (opg rfl rfl (Ev.move (.t rfl)) ?_)
        refine cons (opg rfl rfl (Ev.move (.t rfl)) ?_)
        refine cons (opg rfl rfl (Ev.neq_u64 (.g rfl id) (.g rfl id)) ?_)
        refine cons (opv (Ev.pickO (.t rfl) (.c (v := .bool true) rfl) (fun {_} h => by cases h; rfl) ⟨_, rfl⟩ (by intro h1 h; first | (rw [h] <;> rfl) | (rw [h, h1] <;> rfl) | simp_all)) ?_)
        refine cons (opv (Ev.assign (.t rfl)) ?_)
        refine nil ?_
        refine pN ?_
        refine ret ?_
        refine done rfl (.tmp rfl .nil) (retE ?_)
        have e2 : ∀ z y : Bool, (z = true ∨ y = true) → (z || y) = true := by decide
        refine congrArg Value.bool ?_
        by_cases h1 : commonB a b < 8 * a.length
        · by_cases h2 : commonB a b < 8 * b.length
          · have hd := hab.ne h1 h2
            have hd2 : ¬ (bitU a (commonB a b)).toUInt64 = (bitU b (commonB a b)).toUInt64 := fun e => hd (by
              have := congrArg UInt64.toNat e
              simp only [UInt8.toNat_toUInt64] at this
              exact UInt8.toNat_inj.1 this)
            rw [bits_one a _ (by omega) h1, bits_one b _ (by omega) h2]
            simp [hd2]
          · rw [bits_none b _ (by omega)]
            simp
        · rw [bits_none a _ (by omega)]
          simp
end Go.Proofs.Ytcmpdhggeilkfaa
