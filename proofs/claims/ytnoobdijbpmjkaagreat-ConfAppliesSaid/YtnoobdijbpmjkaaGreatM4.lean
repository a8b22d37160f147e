/- Part. -/
import Derived.Test.YtnoobdijbpmjkaaGreatM3
set_option linter.unusedVariables false
set_option linter.unusedSimpArgs false
namespace Go.Proofs.YtnoobdijbpmjkaaGreat
open Go Go.Gx
theorem str_get {s : ByteArray} {i : Nat} (h : i < s.size) : s[i]? = some (s.get! i) := by
  have h2 : s.get! i = s[i] := by
    cases s with
    | mk bs =>
      show bs[i]! = bs[i]
      exact getElem!_pos bs i h
  rw [h2]
  exact getElem?_pos s i h
def nameU (c : UInt8) (i : Int) : Bool := (decide (97 ≤ c) && decide (c ≤ 122)) || (!decide (i = 0) && (((decide (48 ≤ c) && decide (c ≤ 57)) || decide (c = 45)) || decide (c = 95)))
theorem nameU_eq (c : UInt8) {i : Int} (h : 0 ≤ i) : nameU c i = nameC c.toNat i := by
  have key : ∀ n : Fin 256, (decide (97 ≤ UInt8.ofNat n.val) = decide (97 ≤ (n.val : Int))) ∧ (decide (UInt8.ofNat n.val ≤ 122) = decide ((n.val : Int) ≤ 122)) ∧ (decide (48 ≤ UInt8.ofNat n.val) = decide (48 ≤ (n.val : Int))) ∧ (decide (UInt8.ofNat n.val ≤ 57) = decide ((n.val : Int) ≤ 57)) ∧ (decide (UInt8.ofNat n.val = 45) = decide ((n.val : Int) = 45)) ∧ (decide (UInt8.ofNat n.val = 95) = decide ((n.val : Int) = 95)) := by decide +kernel
  obtain ⟨k1, k2, k3, k4, k5, k6⟩ := key ⟨c.toNat, c.toNat_lt⟩
  simp only [UInt8.ofNat_toNat] at k1 k2 k3 k4 k5 k6
  unfold nameU nameC
  rw [k1, k2, k3, k4, k5, k6]
  have e : (!decide (i = 0)) = decide (0 < i) := by
    by_cases h0 : i = 0
    · simp [h0]
    · have : 0 < i := by omega
      simp [h0, this]
  rw [e]
theorem name_key : ∀ A B C : Bool, (!A && (B || !C)) = !(A || (!B && C)) := by decide
theorem nameB_no {s : ByteArray} {i : Nat} (h : i < s.size) (hb : nameC (s.get! i).toNat i = false) : nameB s = false := by
  unfold nameB
  have : (List.range s.size).all (fun k => nameC (s.get! k).toNat k) = false := List.all_eq_false.2 ⟨i, List.mem_range.2 h, by simp [hb]⟩
  rw [this, Bool.and_false]
theorem nameB_yes {s : ByteArray} (h0 : 1 ≤ s.size ∧ s.size ≤ 16) (hq : ∀ k, k < s.size → nameC (s.get! k).toNat k = true) : nameB s = true := by
  have h : (decide (s.size = 0) || decide (16 < s.size)) = false := by rw [Bool.or_eq_false_iff, decide_eq_false_iff_not, decide_eq_false_iff_not]; omega
  unfold nameB
  rw [h]
  exact List.all_eq_true.2 fun k hk => hq k (List.mem_range.1 hk)
theorem nameB_len {s : ByteArray} (h : s.size < 1 ∨ 16 < s.size) : nameB s = false := by
  have h : (decide (s.size = 0) || decide (16 < s.size)) = true := by rw [Bool.or_eq_true, decide_eq_true_eq, decide_eq_true_eq]; omega
  unfold nameB
  rw [h]
  rfl
theorem u8_mod2 (y : UInt8) : y % 2 = y &&& 1 := by
  apply UInt8.toNat_inj.1
  rw [UInt8.toNat_and, UInt8.toNat_mod]
  have e : UInt8.toNat 1 = 1 := rfl
  have e2 : UInt8.toNat 2 = 2 := rfl
  rw [e, e2, Nat.and_one_is_mod]
theorem checkA_bytes (a : SAddr) : checkA a = 0 ↔ ∀ k : Nat, wd a / 8 ≤ k → k < 16 → a.b.toList.getD k 0 = 0 := by
  have hw : wd a = 32 ∨ wd a = 128 := by unfold wd; cases a.v6 <;> simp
  rw [checkA_zero]
  constructor
  · intro h k h1 h2
    have hm := (mk1_iff (a.b.toList.getD k 0) 0).2 (fun j hj _ => by
      rw [← bitU_at _ _ _ hj]
      exact h _ (by omega) (by omega))
    rw [← hm]
    rfl
  · intro h i h1 h2
    have e : i = 8 * ((i / 8).toNat : Int) + ((i % 8).toNat : Int) := by omega
    rw [e, bitU_at _ _ _ (by omega), h _ (by omega) (by omega)]
    have : ∀ j : Fin 8, bitOf 0 j.val = 0 := by decide
    exact this ⟨(i % 8).toNat, by omega⟩
def rooms : List Int := [2, 4, 8, 16, 32, 64, 128, 256, 512, 1024]
theorem roomB_iff (n : Int) : roomB n = true ↔ n ∈ rooms := by
  have key : ∀ m : Fin 1025, decide (2 ≤ m.val ∧ m.val ≤ 1024 ∧ m.val &&& (m.val - 1) = 0) = decide ((m.val : Int) ∈ rooms) := by decide +kernel
  unfold roomB
  rw [decide_eq_true_iff]
  by_cases h : 0 ≤ n ∧ n ≤ 1024
  · have h2 := key ⟨n.toNat, by omega⟩
    have e : ((n.toNat : Nat) : Int) = n := by omega
    simp only [e] at h2
    rw [Bool.eq_iff_iff, decide_eq_true_iff, decide_eq_true_iff] at h2
    rw [← h2]
    constructor
    · rintro ⟨h3, h4, h5⟩
      exact ⟨by omega, by omega, h5⟩
    · rintro ⟨h3, h4, h5⟩
      exact ⟨by omega, by omega, h5⟩
  · constructor
    · rintro ⟨h3, h4, h5⟩
      omega
    · intro h3
      have : ∀ x ∈ rooms, 0 ≤ x ∧ x ≤ 1024 := by decide
      have := this n h3
      omega
theorem rname_ok (s : ByteArray) (w : World) (hs : s.size ≤ 9223372036854775807) : Calls Tryz.prog 155 #[.string s] w (RetV w (.bool (nameB s))) := by
  refine enter0 54 Tryz.func155 rfl rfl (Nat.le_of_ble_eq_true rfl) ?_
  refine seq (region (cons (opv (Ev.assign (.c (v := .bool false) rfl)) ?_)))
  refine nil (pN (seq (seq (region (cons (opv (Ev.move (.t rfl)) (cons (opv (Ev.lenS Tryz.underlying9 (.t rfl)) ?_))))))))
  refine cons (opv (Ev.lss_i (.t rfl) (.c (v := I 1) rfl)) ?_)
  refine cons (opv (Ev.move (.t rfl)) (cons (opg rfl rfl (Ev.move (.t rfl)) ?_)))
  refine cons (opg rfl rfl (Ev.lenS Tryz.underlying9 (.g rfl id)) ?_)
  refine cons (opg rfl rfl (Ev.gtr_i (.g rfl id) (.c (v := I 16) rfl)) ?_)
  refine cons (opv (Ev.pickO (.t rfl) (.c (v := .bool true) rfl) (fun {_} h => by cases h; rfl) ⟨_, rfl⟩ (by intro h1 h; first | (rw [h] <;> rfl) | (rw [h1, h] <;> rfl) | (rw [h, h1] <;> rfl) | simp_all)) ?_)
  refine nil (pN ?_)
  first | refine condD rfl (fun h0 => ?_) (fun h0 => ?_) | refine cond rfl (fun h0 => ?_) (fun h0 => ?_)
  · try simp only [nb] at h0
    refine seq (region (cons (opv (Ev.assign (.c (v := .bool false) rfl)) ?_)))
    refine nil (pN (ret (pR (done rfl (.tmp rfl .nil) (retE ?_)))))
    rw [nameB_len (by omega)]; rfl
  · try simp only [nb] at h0
    refine skip (pN (seq (seq (region (cons (opv (Ev.assign (.c (v := I 0) rfl)) ?_))))))
    refine nil (pN (block (lp (X := Int) (fun x : Int => (0 ≤ x ∧ x ≤ s.size) ∧ (∀ k : Nat, k < x → nameC (s.get! k).toNat k = true)) (fun x : Int => [(0, true, .string s), (3, true, I x)]) (fun x : Int => []) (fun x : Int => ((s.size : Int) - x).toNat) (0) ⟨?_, ?_⟩ (fun x hx => ?_))))
    · omega
    · intro k h; omega
    obtain ⟨i, rfl⟩ : ∃ y, y = x := ⟨x, rfl⟩
    obtain ⟨hi, hq⟩ : (0 ≤ i ∧ i ≤ s.size) ∧ (∀ k : Nat, k < i → nameC (s.get! k).toNat k = true) := hx
    show Sat _ _ [(0, true, .string s), (3, true, I i)] []
    refine seq (seq (region (cons (opv (Ev.move (.t rfl)) (cons (opv (Ev.move (.t rfl)) (cons (opv (Ev.lenS Tryz.underlying9 (.t rfl)) ?_))))))))
    refine cons (opv (Ev.lss_i (.t rfl) (.t rfl)) ?_)
    refine nil (pN ?_)
    first | refine condD rfl (fun h1 => ?_) (fun h1 => ?_) | refine cond rfl (fun h1 => ?_) (fun h1 => ?_)
    · try simp only [nb] at h1
      refine skip (pN (seq (block (seq (region (cons (opv (Ev.move (.t rfl)) (cons (opv (Ev.move (.t rfl)) (cons (opv (Ev.indexS (b := s.get! i.toNat) (s := s) Tryz.underlying9 (.t rfl) (.t rfl) (fun _ => ⟨by omega, str_get (by omega)⟩)) ?_)))))))))))
      refine cons (opv (Ev.assign (.t rfl)) (nil (pN (seq (region (cons (opv (Ev.move (.t rfl)) (cons (opv (Ev.geq_u8 (.t rfl) (.c (v := U8 97) rfl)) ?_)))))))))
      refine cons (opv (Ev.move (.t rfl)) (cons (opg rfl rfl (Ev.move (.t rfl)) ?_)))
      refine cons (opg rfl rfl (Ev.leq_u8 (.g rfl id) (.c (v := U8 122) rfl)) ?_)
      refine cons (opv (Ev.pickA (.t rfl) (fun {_} h => by cases h; rfl) ⟨_, rfl⟩ (by intro h1 h; first | (rw [h] <;> rfl) | (rw [h1, h] <;> rfl) | (rw [h, h1] <;> rfl) | simp_all) (.c (v := .bool false) rfl)) ?_)
      refine cons (opv (Ev.assign (.t rfl)) (nil (pN (seq (region (cons (opv (Ev.move (.t rfl)) (cons (opv (Ev.geq_u8 (.t rfl) (.c (v := U8 48) rfl)) ?_)))))))))
      refine cons (opv (Ev.move (.t rfl)) (cons (opg rfl rfl (Ev.move (.t rfl)) ?_)))
      refine cons (opg rfl rfl (Ev.leq_u8 (.g rfl id) (.c (v := U8 57) rfl)) ?_)
      refine cons (opv (Ev.pickA (.t rfl) (fun {_} h => by cases h; rfl) ⟨_, rfl⟩ (by intro h1 h; first | (rw [h] <;> rfl) | (rw [h1, h] <;> rfl) | (rw [h, h1] <;> rfl) | simp_all) (.c (v := .bool false) rfl)) ?_)
      refine cons (opv (Ev.move (.t rfl)) (cons (opg rfl rfl (Ev.move (.t rfl)) ?_)))
      refine cons (opg rfl rfl (Ev.eql_u8 (.g rfl id) (.c (v := U8 45) rfl)) ?_)
      refine cons (opv (Ev.pickO (.t rfl) (.c (v := .bool true) rfl) (fun {_} h => by cases h; rfl) ⟨_, rfl⟩ (by intro h1 h; first | (rw [h] <;> rfl) | (rw [h1, h] <;> rfl) | (rw [h, h1] <;> rfl) | simp_all)) ?_)
      refine cons (opv (Ev.move (.t rfl)) (cons (opg rfl rfl (Ev.move (.t rfl)) ?_)))
      refine cons (opg rfl rfl (Ev.eql_u8 (.g rfl id) (.c (v := U8 95) rfl)) ?_)
      refine cons (opv (Ev.pickO (.t rfl) (.c (v := .bool true) rfl) (fun {_} h => by cases h; rfl) ⟨_, rfl⟩ (by intro h1 h; first | (rw [h] <;> rfl) | (rw [h1, h] <;> rfl) | (rw [h, h1] <;> rfl) | simp_all)) ?_)
      refine cons (opv (Ev.assign (.t rfl)) (nil (pN (seq (region (cons (opv (Ev.move (.t rfl)) (cons (opv (Ev.not (.t rfl)) ?_)))))))))
      refine cons (opv (Ev.move (.t rfl)) (cons (opg rfl rfl (Ev.move (.t rfl)) ?_)))
      refine cons (opg rfl rfl (Ev.eql_i (.g rfl id) (.c (v := I 0) rfl)) ?_)
      refine cons (opg rfl rfl (Ev.move (.g rfl id)) ?_)
      refine cons (opg rfl rfl (Ev.move (.t rfl)) ?_)
      refine cons (opg rfl rfl (Ev.not (.g rfl id)) ?_)
      refine cons (opg rfl rfl (Ev.pickO (.g rfl id) (.c (v := .bool true) rfl) (fun {_} h => by cases h; rfl) ⟨_, rfl⟩ (by intro h1 h; first | (rw [h] <;> rfl) | (rw [h1, h] <;> rfl) | (rw [h, h1] <;> rfl) | simp_all)) ?_)
      refine cons (opv (Ev.pickA (.t rfl) (fun {_} h => by cases h; rfl) ⟨_, rfl⟩ (by intro h1 h; first | (rw [h] <;> rfl) | (rw [h1, h] <;> rfl) | (rw [h, h1] <;> rfl) | simp_all) (.c (v := .bool false) rfl)) ?_)
      refine nil (pN ?_)
      first | refine condD rfl (fun h2 => ?_) (fun h2 => ?_) | refine cond rfl (fun h2 => ?_) (fun h2 => ?_)
      · have h2b := (name_key _ _ _).symm.trans h2
        rw [Bool.not_eq_true'] at h2b
        have hu : nameU (s.get! i.toNat) i = false := h2b
        rw [nameU_eq _ (by omega)] at hu
        have ei : ((i.toNat : Nat) : Int) = i := by omega
        rw [← ei] at hu
        simp only [ei, Int.toNat_natCast] at hu
        refine seq (region (cons (opv (Ev.assign (.c (v := .bool false) rfl)) ?_)))
        refine nil (pN (ret (bR (pR (pR (bR (pR (done rfl (.tmp rfl .nil) (retE ?_)))))))))
        have e : nameB s = false := nameB_no (i := i.toNat) (by omega) (by rw [ei]; exact hu)
        rw [e]; rfl
      · have hcu : nameC (s.get! i.toNat).toNat (i.toNat : Nat) = true := by
          have h2b := (name_key _ _ _).symm.trans h2
          rw [Bool.not_eq_false'] at h2b
          have hu : nameU (s.get! i.toNat) i = true := h2b
          rw [nameU_eq _ (by omega)] at hu
          have ei : ((i.toNat : Nat) : Int) = i := by omega
          rw [ei]; exact hu
        refine skip (bN (pN (region (cons (opv (Ev.move (.t rfl)) (cons (opv (Ev.add_i (.t rfl) (.c (v := I 1) rfl) (fun _ => by omega)) ?_)))))))
        refine cons (opv (Ev.assign (.t rfl)) (nil (pN (nx (X := Int) (i + 1) ⟨?_, ?_⟩ ?_))))
        · try dsimp only
          omega
        · try dsimp only
          intro k h
          by_cases e : (k : Int) < i
          · exact hq k e
          · obtain rfl : k = i.toNat := by omega
            exact hcu
        · try dsimp only
          omega
    · try simp only [nb] at h1
      refine exit (pX (pX (bX (pN (seq (region (cons (opv (Ev.assign (.c (v := .bool true) rfl)) ?_))))))))
      refine nil (pN (ret (done rfl (.tmp rfl .nil) (retE ?_))))
      have e : nameB s = true := nameB_yes (by omega) (fun k hk => hq k (by omega))
      rw [e]; rfl
theorem r15width_ok (a : SAddr) (w : World) : Calls Tryz.prog 183 #[eAddr.val a] w (RetV w (I (wd a))) := by
  refine enter0 5 Tryz.func183 rfl rfl (Nat.le_of_ble_eq_true rfl) ?_
  refine seq (region (cons (box (E := eAddr) (.t rfl) (fun b1 => ?_))))
  refine cons (opv (Ev.assign (.c (v := I 0) rfl)) ?_)
  refine nil (pN (seq (seq (region (cons (opv (Ev.fieldAddr (o := 0) (.t rfl) (by kernel_rfl)) ?_))))))
  refine cons (opv (Ev.ldx a.v6 ty4 (.t rfl) SAddr.l_v6) ?_)
  refine nil (pN ?_)
  first | refine condD rfl (fun h0 => ?_) (fun h0 => ?_) | refine cond rfl (fun h0 => ?_) (fun h0 => ?_)
  · try simp only [nb] at h0
    refine seq (region (cons (opv (Ev.assign (.c (v := I 128) rfl)) ?_)))
    refine nil (pN (ret (pR (done rfl (.tmp rfl .nil) (retE ?_)))))
    simp [wd, h0, tupV]
  · try simp only [nb] at h0
    refine skip (pN (seq (region (cons (opv (Ev.assign (.c (v := I 32) rfl)) ?_)))))
    refine nil (pN (ret (done rfl (.tmp rfl .nil) (retE ?_))))
    simp [wd, h0, tupV]
theorem r15bit_ok (a : SAddr) (i : Int) (w : World) (h : 0 ≤ i ∧ i < 128) : Calls Tryz.prog 184 #[eAddr.val a, I i] w (RetV w (.bool (decide (bitU a.b.toList i = 1)))) := by
  refine enter0 16 Tryz.func184 rfl rfl (Nat.le_of_ble_eq_true rfl) ?_
  refine seq (region (cons (box (E := eAddr) (.t rfl) (fun b1 => ?_))))
  refine cons (opv (Ev.assign (.c (v := .bool false) rfl)) ?_)
  refine nil (pN (seq (region (cons (opv (Ev.move (.t rfl)) (cons (opv (Ev.quo_n (.t rfl) (.c (v := I 8) rfl) (fun _ => by omega) (fun _ => by omega) (fun _ => by omega)) ?_)))))))
  refine cons (opv (Ev.fieldAddr (o := 1) (.t rfl) (by kernel_rfl)) ?_)
  refine cons (opv (Ev.indexAddrA Tryz.underlying46 ty5 (.t rfl) (.t rfl) (fun _ => by omega)) ?_)
  refine cons (opv (Ev.ldv ty5 (.t rfl) (Lens.comp SAddr.l_b (lArr (n := 16) u8E _ (by omega)))) ?_)
  refine cons (opv (Ev.move (.t rfl)) (cons (opv (Ev.rem_n (.t rfl) (.c (v := I 8) rfl) (fun _ => by omega) (fun _ => by omega)) ?_)))
  refine cons (opv (Ev.sub_i (.c (v := I 7) rfl) (.t rfl) (fun _ => by omega)) ?_)
  refine cons (opv (Ev.shr_u8 (.t rfl) (.t rfl) (fun _ => by omega)) ?_)
  refine cons (opv (Ev.rem_u8 (.t rfl) (.c (v := U8 2) rfl) (fun _ => by decide)) ?_)
  refine cons (opv (Ev.eql_u8 (.t rfl) (.c (v := U8 1) rfl)) ?_)
  refine cons (opv (Ev.assign (.t rfl)) (nil (pN (ret (done rfl (.tmp rfl .nil) (retE ?_))))))
  unfold bitU
  rw [vec_getD a.b _ (by omega), ← u8_mod2]
  rfl
theorem en183 : Gx.Enters Tryz.prog 183 := Gx.Enters.mk' (by kernel_rfl)
theorem r15checkA_ok (a : SAddr) (w : World) : Calls Tryz.prog 182 #[eAddr.val a] w (RetV w (I (checkA a))) := by
  have hw := wd_le a
  refine enter0 16 Tryz.func182 rfl rfl (Nat.le_of_ble_eq_true rfl) ?_
  refine seq (region (cons (box (E := eAddr) (.t rfl) (fun b1 => ?_))))
  refine cons (opv (Ev.assign (.c (v := I 0) rfl)) ?_)
  refine nil (pN (seq (seq (region (cons (opv (Ev.ldx a ty48 (.t rfl) (Lens.id _)) ?_))))))
  refine cons (callv en183 (.cons (.t rfl) .nil) (fun w I => r15width_ok _ w) ?_)
  refine cons (opv (Ev.to (v' := I (wd a / 8)) (Ev.quo_n (.t rfl) (.c (v := I 8) rfl) (fun _ => by omega) (fun _ => by omega) (fun _ => by omega)) (rfl)) ?_)
  refine cons (opv (Ev.assign (.t rfl)) (nil (pN (block (lp (X := Int) (fun x : Int => (wd a / 8 ≤ x ∧ x ≤ 16) ∧ (∀ k : Nat, wd a / 8 ≤ k → k < x → a.b.toList.getD k 0 = 0)) (fun x : Int => [(1, true, .pointer (some ⟨b1, 0, none⟩)), (3, true, I x)]) (fun x : Int => [Var b1 eAddr a 48]) (fun x : Int => (16 - x).toNat) (wd a / 8) ⟨?_, ?_⟩ (fun x hx => ?_))))))
  · omega
  · intro k h1 h2; omega
  obtain ⟨i, rfl⟩ : ∃ y, y = x := ⟨x, rfl⟩
  obtain ⟨hi, hz⟩ : (wd a / 8 ≤ i ∧ i ≤ 16) ∧ (∀ k : Nat, wd a / 8 ≤ k → k < i → a.b.toList.getD k 0 = 0) := hx
  show Sat _ _ [(1, true, .pointer (some ⟨b1, 0, none⟩)), (3, true, I i)] [Var b1 eAddr a 48]
  refine seq (seq (region (cons (opv (Ev.move (.t rfl)) (cons (opv (Ev.lss_i (.t rfl) (.c (v := I 16) rfl)) ?_))))))
  refine nil (pN ?_)
  first | refine condD rfl (fun h0 => ?_) (fun h0 => ?_) | refine cond rfl (fun h0 => ?_) (fun h0 => ?_)
  · try simp only [nb] at h0
    refine skip (pN (seq (block (seq (region (cons (opv (Ev.move (.t rfl)) (cons (opv (Ev.fieldAddr (o := 1) (.t rfl) (by kernel_rfl)) ?_)))))))))
    refine cons (opv (Ev.indexAddrA Tryz.underlying46 ty5 (.t rfl) (.t rfl) (fun _ => by omega)) ?_)
    refine cons (opv (Ev.ldv ty5 (.t rfl) (Lens.comp SAddr.l_b (lArr (n := 16) u8E _ (by omega)))) ?_)
    refine cons (opv (Ev.neq_u8 (.t rfl) (.c (v := U8 0) rfl)) ?_)
    refine nil (pN ?_)
    first | refine condD rfl (fun h1 => ?_) (fun h1 => ?_) | refine cond rfl (fun h1 => ?_) (fun h1 => ?_)
    · try simp only [nb] at h1
      refine seq (region (cons (opv (Ev.assign (.c (v := I 150) rfl)) ?_)))
      refine nil (pN (ret (bR (pR (pR (bR (pR (done rfl (.tmp rfl .nil) (retE ?_)))))))))
      have hne : ¬ checkA a = 0 := fun h => by
        have := (checkA_bytes a).1 h i.toNat (by omega) (by omega)
        rw [vec_getD a.b _ (by omega)] at this
        exact h1 this
      have e : checkA a = 150 := by unfold checkA at hne ⊢; split at hne <;> simp_all
      rw [e]; rfl
    · try simp only [nb] at h1
      refine skip (bN (pN (region (cons (opv (Ev.move (.t rfl)) (cons (opv (Ev.add_i (.t rfl) (.c (v := I 1) rfl) (fun _ => by omega)) ?_)))))))
      refine cons (opv (Ev.assign (.t rfl)) (nil (pN (nx (X := Int) (i + 1) ⟨?_, ?_⟩ ?_))))
      · try dsimp only
        omega
      · try dsimp only
        intro k h1a h2a
        by_cases e : (k : Int) < i
        · exact hz k h1a e
        · obtain rfl : k = i.toNat := by omega
          rw [vec_getD a.b _ (by omega)]
          simpa using h1
      · try dsimp only
        omega
  · try simp only [nb] at h0
    refine exit (pX (pX (bX (pN (seq (region (cons (opv (Ev.assign (.c (v := I 0) rfl)) ?_))))))))
    refine nil (pN (ret (done rfl (.tmp rfl .nil) (retE ?_))))
    have e : checkA a = 0 := (checkA_bytes a).2 (fun k hk1 hk2 => hz k hk1 (by omega))
    rw [e]; rfl
theorem checkP_15 (p : SPrefix) : checkP p = 0 ↔ checkA p.addr = 0 ∧ 0 ≤ p.bits ∧ p.bits ≤ wd p.addr ∧ ∀ i : Int, p.bits ≤ i → i < wd p.addr → ¬ bitU p.addr.b.toList i = 1 := by
  have hw := wd_le p.addr
  have h01 : ∀ i, bitU p.addr.b.toList i = 0 ∨ bitU p.addr.b.toList i = 1 := fun i => by
    have : ∀ x : UInt8, x &&& 1 = 0 ∨ x &&& 1 = 1 := fun x => by
      have h : (x &&& 1).toNat = x.toNat % 2 := by
        rw [UInt8.toNat_and]
        exact Nat.and_one_is_mod _
      rcases Nat.mod_two_eq_zero_or_one x.toNat with h2 | h2
      · exact .inl (UInt8.toNat_inj.1 (by rw [h, h2]; rfl))
      · exact .inr (UInt8.toNat_inj.1 (by rw [h, h2]; rfl))
    exact this _
  rw [checkP_zero, checkA_zero]
  constructor
  · rintro ⟨h1, h2, h3⟩
    refine ⟨fun i hi hj => h3 i (by omega) hj, h1, h2, fun i hi hj e => ?_⟩
    rw [h3 i hi (by omega)] at e
    exact absurd e (by decide)
  · rintro ⟨h1, h2, h3, h4⟩
    refine ⟨h2, h3, fun i hi hj => ?_⟩
    by_cases hlt : i < wd p.addr
    · exact (h01 i).resolve_right (h4 i hi hlt)
    · exact h1 i (by omega) hj
theorem checkP_or (p : SPrefix) : checkP p = 0 ∨ checkP p = 151 := by
  unfold checkP
  split <;> simp
theorem en182 : Gx.Enters Tryz.prog 182 := Gx.Enters.mk' (by kernel_rfl)
theorem en184 : Gx.Enters Tryz.prog 184 := Gx.Enters.mk' (by kernel_rfl)
theorem r15check_ok (p : SPrefix) (w : World) : Calls Tryz.prog 154 #[ePrefix.val p] w (RetV w (I (checkP p))) := by
  have hw := wd_le p.addr
  refine enter0 34 Tryz.func154 rfl rfl (Nat.le_of_ble_eq_true rfl) ?_
  refine seq (region (cons (box (E := ePrefix) (.t rfl) (fun b1 => ?_))))
  refine cons (opv (Ev.assign (.c (v := I 0) rfl)) ?_)
  refine nil (pN (seq (seq (draw' (by kernel_rfl) ?_))))
  refine tk 0 rfl (Ev.fieldAddr (o := 0) (.t rfl) (by kernel_rfl)) ?_
  refine tk 1 rfl (Ev.ldx p.addr ty48 (.t rfl) SPrefix.l_addr) ?_
  refine al1 2 rfl ((callv en182 (.cons (.t rfl) .nil) (fun w I => r15checkA_ok _ w) ?_))
  refine hdn (tk 3 rfl (Ev.neq_i (.t rfl) (.c (v := I 0) rfl)) ?_)
  refine tk 4 rfl (Ev.move (.t rfl)) ?_
  refine tkg 5 rfl rfl rfl (Ev.fieldAddr (o := 17) (.t rfl) (by kernel_rfl)) ?_
  refine tkg 6 rfl rfl rfl (Ev.ldx p.bits ty3 (.g rfl id) SPrefix.l_bits) ?_
  refine tkg 7 rfl rfl rfl (Ev.lss_i (.g rfl id) (.c (v := I 0) rfl)) ?_
  refine tk 8 rfl (Ev.pickO (.t rfl) (.c (v := .bool true) rfl) (fun {_} h => by cases h; rfl) ⟨_, rfl⟩ (by intro h1 h; first | (rw [h] <;> rfl) | (rw [h1, h] <;> rfl) | (rw [h, h1] <;> rfl) | simp_all)) ?_
  refine tk 9 rfl (Ev.move (.t rfl)) ?_
  refine tkg 10 rfl rfl rfl (Ev.fieldAddr (o := 17) (.t rfl) (by kernel_rfl)) ?_
  refine tkg 11 rfl rfl rfl (Ev.ldx p.bits ty3 (.g rfl id) SPrefix.l_bits) ?_
  refine tkg 12 rfl rfl rfl (Ev.fieldAddr (o := 0) (.t rfl) (by kernel_rfl)) ?_
  refine tkg 13 rfl rfl rfl (Ev.ldx p.addr ty48 (.g rfl id) SPrefix.l_addr) ?_
  refine al1 14 rfl ((callg rfl rfl en183 (.cons (.g rfl id) .nil) (fun hg w I => r15width_ok _ w) ?_))
  refine hdn (tkg 15 rfl rfl rfl (Ev.gtr_i (.g rfl id) (.g rfl id)) ?_)
  refine tk 16 rfl (Ev.pickO (.t rfl) (.c (v := .bool true) rfl) (fun {_} h => by cases h; rfl) ⟨_, rfl⟩ (by intro h1 h; first | (rw [h] <;> rfl) | (rw [h1, h] <;> rfl) | (rw [h, h1] <;> rfl) | simp_all)) ?_
  refine ovr (pN ?_)
  first | refine condD rfl (fun h0 => ?_) (fun h0 => ?_) | refine cond rfl (fun h0 => ?_) (fun h0 => ?_)
  · refine seq (region (cons (opv (Ev.assign (.c (v := I 151) rfl)) ?_)))
    refine nil (pN (ret (pR (done rfl (.tmp rfl .nil) (retE ?_)))))
    have e : checkP p = 151 := (checkP_or p).resolve_left (fun h => by
      have := (checkP_15 p).1 h
      simp [this.1] at h0
      omega)
    rw [e]; rfl
  · have hr : checkA p.addr = 0 ∧ 0 ≤ p.bits ∧ p.bits ≤ wd p.addr := by simpa [and_assoc] using h0
    refine skip (pN (seq (seq (region (cons (opv (Ev.fieldAddr (o := 17) (.t rfl) (by kernel_rfl)) ?_))))))
    refine cons (opv (Ev.ldx p.bits ty3 (.t rfl) SPrefix.l_bits) ?_)
    refine cons (opv (Ev.assign (.t rfl)) (nil (pN (block (lp (X := Int) (fun x : Int => (p.bits ≤ x ∧ x ≤ wd p.addr) ∧ (∀ j : Int, p.bits ≤ j → j < x → ¬ bitU p.addr.b.toList j = 1)) (fun x : Int => [(1, true, .pointer (some ⟨b1, 0, none⟩)), (3, true, I x)]) (fun x : Int => [Var b1 ePrefix p 50]) (fun x : Int => (wd p.addr - x).toNat) (p.bits) ⟨?_, ?_⟩ (fun x hx => ?_))))))
    · omega
    · intro j h1 h2; omega
    obtain ⟨i, rfl⟩ : ∃ y, y = x := ⟨x, rfl⟩
    obtain ⟨hi, hz⟩ : (p.bits ≤ i ∧ i ≤ wd p.addr) ∧ (∀ j : Int, p.bits ≤ j → j < i → ¬ bitU p.addr.b.toList j = 1) := hx
    show Sat _ _ [(1, true, .pointer (some ⟨b1, 0, none⟩)), (3, true, I i)] [Var b1 ePrefix p 50]
    refine seq (seq (region (cons (opv (Ev.move (.t rfl)) (cons (opv (Ev.fieldAddr (o := 0) (.t rfl) (by kernel_rfl)) ?_))))))
    refine cons (opv (Ev.ldx p.addr ty48 (.t rfl) SPrefix.l_addr) ?_)
    refine cons (callv en183 (.cons (.t rfl) .nil) (fun w I => r15width_ok _ w) ?_)
    refine cons (opv (Ev.lss_i (.t rfl) (.t rfl)) ?_)
    refine nil (pN ?_)
    first | refine condD rfl (fun h1 => ?_) (fun h1 => ?_) | refine cond rfl (fun h1 => ?_) (fun h1 => ?_)
    · try simp only [nb] at h1
      refine skip (pN (seq (block (seq (region (cons (opv (Ev.fieldAddr (o := 0) (.t rfl) (by kernel_rfl)) ?_)))))))
      refine cons (opv (Ev.ldx p.addr ty48 (.t rfl) SPrefix.l_addr) ?_)
      refine cons (opv (Ev.move (.t rfl)) (cons (callv en184 (.cons (.t rfl) (.cons (.t rfl) .nil)) (fun w I => r15bit_ok _ _ w (by first | omega | (simp; omega))) ?_)))
      refine nil (pN ?_)
      first | refine condD rfl (fun h2 => ?_) (fun h2 => ?_) | refine cond rfl (fun h2 => ?_) (fun h2 => ?_)
      · refine seq (region (cons (opv (Ev.assign (.c (v := I 151) rfl)) ?_)))
        refine nil (pN (ret (bR (pR (pR (bR (pR (done rfl (.tmp rfl .nil) (retE ?_)))))))))
        have e : checkP p = 151 := (checkP_or p).resolve_left (fun h => ((checkP_15 p).1 h).2.2.2 i (by omega) (by omega) (by simpa using h2))
        rw [e]; rfl
      · refine skip (bN (pN (region (cons (opv (Ev.move (.t rfl)) (cons (opv (Ev.add_i (.t rfl) (.c (v := I 1) rfl) (fun _ => by omega)) ?_)))))))
        refine cons (opv (Ev.assign (.t rfl)) (nil (pN (nx (X := Int) (i + 1) ⟨?_, ?_⟩ ?_))))
        · try dsimp only
          omega
        · try dsimp only
          intro j h1 h2a
          by_cases e : j = i
          · rw [e]; simpa using h2
          · exact hz j h1 (by omega)
        · try dsimp only
          omega
    · try simp only [nb] at h1
      refine exit (pX (pX (bX (pN (seq (region (cons (opv (Ev.assign (.c (v := I 0) rfl)) ?_))))))))
      refine nil (pN (ret (done rfl (.tmp rfl .nil) (retE ?_))))
      have e : checkP p = 0 := (checkP_15 p).2 ⟨hr.1, hr.2.1, hr.2.2, fun j h1 h2 => hz j h1 (by omega)⟩
      rw [e]; rfl
theorem rroom_ok (n : Int) (w : World) : Calls Tryz.prog 159 #[I n] w (RetV w (.bool (roomB n))) := by
  refine enter0 11 Tryz.func159 rfl rfl (Nat.le_of_ble_eq_true rfl) ?_
  refine seq (region (cons (opv (Ev.assign (.c (v := .bool false) rfl)) ?_)))
  refine nil (pN (seq (seq (region (cons (opv (Ev.assign (.c (v := I 2) rfl)) ?_))))))
  refine nil (pN (block (lp (X := Int) (fun x : Int => (x ∈ (2048 :: rooms)) ∧ (∀ m ∈ rooms, m < x → ¬ m = n)) (fun x : Int => [(0, true, I n), (3, true, I x)]) (fun x : Int => []) (fun x : Int => (2048 - x).toNat) (2) ⟨?_, ?_⟩ (fun x hx => ?_))))
  · decide
  · have h : ∀ m ∈ rooms, ¬ m < 2 := by decide
    exact fun m hm hl => absurd hl (h m hm)
  obtain ⟨k, rfl⟩ : ∃ y, y = x := ⟨x, rfl⟩
  obtain ⟨hk, hq⟩ : (k ∈ (2048 :: rooms)) ∧ (∀ m ∈ rooms, m < k → ¬ m = n) := hx
  show Sat _ _ [(0, true, I n), (3, true, I k)] []
  refine seq (seq (region (cons (opv (Ev.move (.t rfl)) (cons (opv (Ev.leq_i (.t rfl) (.c (v := I 1024) rfl)) ?_))))))
  refine nil (pN ?_)
  first | refine condD rfl (fun h0 => ?_) (fun h0 => ?_) | refine cond rfl (fun h0 => ?_) (fun h0 => ?_)
  · try simp only [nb] at h0
    have hkr : k ∈ rooms := by
      rcases List.mem_cons.1 hk with h | h
      · omega
      · exact h
    have hkb : 2 ≤ k ∧ k ≤ 1024 := by
      have : ∀ k ∈ rooms, 2 ≤ k ∧ k ≤ 1024 := by decide
      exact this k hkr
    refine skip (pN (seq (block (seq (region (cons (opv (Ev.move (.t rfl)) (cons (opv (Ev.move (.t rfl)) (cons (opv (Ev.eql_i (.t rfl) (.t rfl)) ?_)))))))))))
    refine nil (pN ?_)
    first | refine condD rfl (fun h1 => ?_) (fun h1 => ?_) | refine cond rfl (fun h1 => ?_) (fun h1 => ?_)
    · try simp only [nb] at h1
      refine seq (region (cons (opv (Ev.assign (.c (v := .bool true) rfl)) ?_)))
      refine nil (pN (ret (bR (pR (pR (bR (pR (done rfl (.tmp rfl .nil) (retE ?_)))))))))
      have e : roomB n = true := (roomB_iff n).2 (h1 ▸ hkr)
      rw [e]; rfl
    · try simp only [nb] at h1
      refine skip (bN (pN (region (cons (opv (Ev.move (.t rfl)) (cons (opv (Ev.mul_i (.c (v := I 2) rfl) (.t rfl) (fun _ => by omega)) ?_)))))))
      refine cons (opv (Ev.assign (.t rfl)) (nil (pN (nx (X := Int) (2 * k) ⟨?_, ?_⟩ ?_))))
      · try dsimp only
        have hs : ∀ k ∈ rooms, 2 * k ∈ (2048 :: rooms) := by decide
        exact hs k hkr
      · try dsimp only
        have hs : ∀ k ∈ rooms, ∀ m ∈ rooms, m < 2 * k → m < k ∨ m = k := by decide
        intro m hm hlt
        rcases hs k hkr m hm hlt with h | h
        · exact hq m hm h
        · rw [h]; exact h1
      · try dsimp only
        have := hkb; omega
  · try simp only [nb] at h0
    have hkt : k = 2048 := by
      rcases List.mem_cons.1 hk with h | h
      · exact h
      · have : ∀ k ∈ rooms, k ≤ 1024 := by decide
        have := this k h
        omega
    refine exit (pX (pX (bX (pN (seq (region (cons (opv (Ev.assign (.c (v := .bool false) rfl)) ?_))))))))
    refine nil (pN (ret (done rfl (.tmp rfl .nil) (retE ?_))))
    have e : roomB n = false := by
      rw [Bool.eq_false_iff]
      intro h
      have hm := (roomB_iff n).1 h
      have : ∀ m ∈ rooms, m < 2048 := by decide
      exact hq n hm (by rw [hkt]; exact this n hm) rfl
    rw [e]; rfl
theorem rckport_ok (c : SConf) (l : CL) (i : Int) (w : World) (hc : ConfAt w c l) (hi : 0 ≤ i ∧ i < l.ps.length) : Calls Tryz.prog 119 #[eConf.val c, I i] w (RetV w (I (portE l.ps (l.ps.getD i.toNat iE.zero) i))) := by
  have hle := hc.ps.le
  refine enter0 35 Tryz.func119 rfl rfl (Nat.le_of_ble_eq_true rfl) ?_
  refine seq (region (cons (box (E := eConf) (.t rfl) (fun b1 => ?_))))
  refine cons (opv (Ev.assign (.c (v := I 0) rfl)) ?_)
  refine nil (pN (seq (seq (region (cons (opv (Ev.fieldAddr (o := 0) (.t rfl) (by kernel_rfl)) ?_))))))
  refine cons (opv (Ev.ldx c.ports ty22 (.t rfl) SConf.l_ports) ?_)
  refine cons (opv (Ev.move (.t rfl)) (cons (opv (Ev.indexAddr Tryz.underlying22 ty3 (.t rfl) (.t rfl) (fun w I => (hc.keep0 I.keeps).ps) (fun _ => by omega)) ?_)))
  refine cons (opv (Ev.loadS0 ty3 (.t rfl) (fun w I => (hc.keep0 I.keeps).ps) (fun _ => by omega)) ?_)
  refine cons (opv (Ev.lss_i (.t rfl) (.c (v := I 0) rfl)) ?_)
  refine cons (opv (Ev.move (.t rfl)) (cons (opg rfl rfl (Ev.fieldAddr (o := 0) (.t rfl) (by kernel_rfl)) ?_)))
  refine cons (opg rfl rfl (Ev.ldx c.ports ty22 (.g rfl id) SConf.l_ports) ?_)
  refine cons (opg rfl rfl (Ev.move (.t rfl)) ?_)
  refine cons (opg rfl rfl (Ev.indexAddr Tryz.underlying22 ty3 (.g rfl id) (.g rfl id) (fun w I => (hc.keep0 I.keeps).ps) (fun _ => by first | omega | (rename_i hg; simp at hg; omega))) ?_)
  refine cons (opg rfl rfl (Ev.loadS0 ty3 (.g rfl id) (fun w I => (hc.keep0 I.keeps).ps) (fun _ => by first | omega | (rename_i hg; simp at hg; omega))) ?_)
  refine cons (opg rfl rfl (Ev.gtr_i (.g rfl id) (.c (v := I 255) rfl)) ?_)
  refine cons (opv (Ev.pickO (.t rfl) (.c (v := .bool true) rfl) (fun {_} h => by cases h; rfl) ⟨_, rfl⟩ (by intro h1 h; first | (rw [h] <;> rfl) | (rw [h1, h] <;> rfl) | (rw [h, h1] <;> rfl) | simp_all)) ?_)
  refine nil (pN ?_)
  first | refine condD rfl (fun h0 => ?_) (fun h0 => ?_) | refine cond rfl (fun h0 => ?_) (fun h0 => ?_)
  · refine seq (region (cons (opv (Ev.assign (.c (v := I 5) rfl)) ?_)))
    refine nil (pN (ret (pR (done rfl (.tmp rfl .nil) (retE ?_)))))
    unfold portE; rw [if_pos (by simpa using h0)]; rfl
  · refine skip (pN (seq (seq (draw' (by kernel_rfl) ?_))))
    refine tk 0 rfl (Ev.move (.t rfl)) ?_
    refine tk 1 rfl (Ev.gtr_i (.t rfl) (.c (v := I 0) rfl)) ?_
    refine tk 2 rfl (Ev.move (.t rfl)) ?_
    refine tkg 3 rfl rfl rfl (Ev.fieldAddr (o := 0) (.t rfl) (by kernel_rfl)) ?_
    refine tkg 4 rfl rfl rfl (Ev.ldx c.ports ty22 (.g rfl id) SConf.l_ports) ?_
    refine tkg 5 rfl rfl rfl (Ev.move (.t rfl)) ?_
    refine tkg 6 rfl rfl rfl (Ev.indexAddr Tryz.underlying22 ty3 (.g rfl id) (.g rfl id) (fun w I => (hc.keep0 I.keeps).ps) (fun _ => by first | omega | (rename_i hg; simp at hg; omega))) ?_
    refine tkg 7 rfl rfl rfl (Ev.loadS0 ty3 (.g rfl id) (fun w I => (hc.keep0 I.keeps).ps) (fun _ => by first | omega | (rename_i hg; simp at hg; omega))) ?_
    refine tkg 8 rfl rfl rfl (Ev.fieldAddr (o := 0) (.t rfl) (by kernel_rfl)) ?_
    refine tkg 9 rfl rfl rfl (Ev.ldx c.ports ty22 (.g rfl id) SConf.l_ports) ?_
    refine tkg 10 rfl rfl rfl (Ev.move (.t rfl)) ?_
    refine tkg 11 rfl rfl rfl (Ev.sub_i (.g rfl id) (.c (v := I 1) rfl) (fun _ => by first | omega | (rename_i hg; simp at hg; omega))) ?_
    refine tkg 12 rfl rfl rfl (Ev.indexAddr Tryz.underlying22 ty3 (.g rfl id) (.g rfl id) (fun w I => (hc.keep0 I.keeps).ps) (fun _ => by first | omega | (rename_i hg; simp at hg; omega))) ?_
    refine tkg 13 rfl rfl rfl (Ev.loadS0 ty3 (.g rfl id) (fun w I => (hc.keep0 I.keeps).ps) (fun _ => by first | omega | (rename_i hg; simp at hg; omega))) ?_
    refine tkg 14 rfl rfl rfl (Ev.leq_i (.g rfl id) (.g rfl id)) ?_
    refine tk 15 rfl (Ev.pickA (.t rfl) (fun {_} h => by cases h; rfl) ⟨_, rfl⟩ (by intro h1 h; first | (rw [h] <;> rfl) | (rw [h1, h] <;> rfl) | (rw [h, h1] <;> rfl) | simp_all) (.c (v := .bool false) rfl)) ?_
    refine ovr (pN ?_)
    first | refine condD rfl (fun h1 => ?_) (fun h1 => ?_) | refine cond rfl (fun h1 => ?_) (fun h1 => ?_)
    · refine seq (region (cons (opv (Ev.assign (.c (v := I 2) rfl)) ?_)))
      refine nil (pN (ret (pR (done rfl (.tmp rfl .nil) (retE ?_)))))
      have ez : (iE.zero : Int) = 0 := rfl
      unfold portE; rw [if_neg (by simpa using h0), if_pos (by simpa [ez] using h1)]; rfl
    · refine skip (pN (seq (region (cons (opv (Ev.assign (.c (v := I 0) rfl)) ?_)))))
      refine nil (pN (ret (done rfl (.tmp rfl .nil) (retE ?_))))
      have ez : (iE.zero : Int) = 0 := rfl
      unfold portE; rw [if_neg (by simpa using h0), if_neg (by simpa [ez] using h1)]; rfl
theorem en154 : Gx.Enters Tryz.prog 154 := Gx.Enters.mk' (by kernel_rfl)
theorem en124 : Gx.Enters Tryz.prog 124 := Gx.Enters.mk' (by kernel_rfl)
theorem en125 : Gx.Enters Tryz.prog 125 := Gx.Enters.mk' (by kernel_rfl)
theorem rckroute_ok (c : SConf) (l : CL) (i : Int) (w : World) (hc : ConfAt w c l) (hi : 0 ≤ i ∧ i < l.rs.length) : Calls Tryz.prog 120 #[eConf.val c, I i] w (RetV w (I (routeE l (l.rs.getD i.toNat eRoute.zero) i))) := by
  have hle := hc.rs.le
  have hix := find_at SPrefix.eqb_iff (fun r => r.to_) l.rs eRoute.zero i.toNat (by omega)
  have hix3 : (findV SPrefix.eqb (l.rs.getD i.toNat eRoute.zero).to_ (routesM l)).getD 0 = idxF (fun z => SPrefix.eqb z.to_ (l.rs.getD i.toNat eRoute.zero).to_) l.rs := hix
  refine enter0 26 Tryz.func120 rfl rfl (Nat.le_of_ble_eq_true rfl) ?_
  refine seq (region (cons (box (E := eConf) (.t rfl) (fun b1 => ?_))))
  refine cons (opv (Ev.assign (.c (v := I 0) rfl)) ?_)
  refine nil (pN (seq (region (cons (opv (Ev.fieldAddr (o := 1) (.t rfl) (by kernel_rfl)) ?_)))))
  refine cons (opv (Ev.ldx c.routes ty23 (.t rfl) SConf.l_routes) ?_)
  refine cons (opv (Ev.move (.t rfl)) (cons (opv (Ev.indexAddr Tryz.underlying23 ty52 (.t rfl) (.t rfl) (fun w I => (hc.keep0 I.keeps).rs) (fun _ => by omega)) ?_)))
  refine cons (opv (Ev.loadS0 ty52 (.t rfl) (fun w I => (hc.keep0 I.keeps).rs) (fun _ => by omega)) ?_)
  refine cons (alloc z52 (fun b2 => ?_))
  refine cons (stv ty52 (Lens.id _) (.t rfl) (.t rfl) ?_)
  refine nil (pN (seq (seq (region (cons (opv (Ev.fieldAddr (o := 0) (.t rfl) (by kernel_rfl)) ?_))))))
  refine cons (opv (Ev.ldv ty50 (.t rfl) SRoute.l_to_) ?_)
  refine cons (callv en154 (.cons (.t rfl) .nil) (fun w I => r15check_ok _ w) ?_)
  refine cons (opv (Ev.neq_i (.t rfl) (.c (v := I 0) rfl)) ?_)
  refine nil (pN ?_)
  first | refine condD rfl (fun h0 => ?_) (fun h0 => ?_) | refine cond rfl (fun h0 => ?_) (fun h0 => ?_)
  · refine seq (region (cons (opv (Ev.assign (.c (v := I 151) rfl)) ?_)))
    refine nil (pN (ret (pR (done rfl (.tmp rfl .nil) (retE ?_)))))
    have p0 : checkP (l.rs.getD i.toNat eRoute.zero).to_ ≠ 0 := by simpa using h0
    unfold routeE
    rw [if_pos p0]
    rfl
  · refine skip (pN (seq (seq (region (cons (opv (Ev.ldx c ty28 (.t rfl) (Lens.id _)) ?_))))))
    refine cons (opv (Ev.fieldAddr (o := 18) (.t rfl) (by kernel_rfl)) ?_)
    refine cons (opv (Ev.ldv ty3 (.t rfl) SRoute.l_out) ?_)
    refine cons (callv en124 (.cons (.t rfl) (.cons (.t rfl) .nil)) (fun w I => rport_ok c l _ w (hc.keep0 I.keeps)) ?_)
    refine cons (opv (Ev.not (.t rfl)) ?_)
    refine nil (pN ?_)
    first | refine condD rfl (fun h1 => ?_) (fun h1 => ?_) | refine cond rfl (fun h1 => ?_) (fun h1 => ?_)
    · refine seq (region (cons (opv (Ev.assign (.c (v := I 5) rfl)) ?_)))
      refine nil (pN (ret (pR (done rfl (.tmp rfl .nil) (retE ?_)))))
      have n0 : ¬ (checkP (l.rs.getD i.toNat eRoute.zero).to_ ≠ 0) := by simpa using h0
      have p1 : portB l (l.rs.getD i.toNat eRoute.zero).out = false := by simpa using h1
      unfold routeE
      rw [if_neg n0, if_pos p1]
      rfl
    · refine skip (pN (seq (seq (region (cons (opv (Ev.ldx c ty28 (.t rfl) (Lens.id _)) ?_))))))
      refine cons (opv (Ev.fieldAddr (o := 0) (.t rfl) (by kernel_rfl)) ?_)
      refine cons (opv (Ev.ldv ty50 (.t rfl) SRoute.l_to_) ?_)
      refine cons (callv en125 (.cons (.t rfl) (.cons (.t rfl) .nil)) (fun w I => rroute_ix c l _ w (hc.keep0 I.keeps)) ?_)
      refine cons (opv (Ev.move (.t rfl)) (cons (opv (Ev.lss_i (.t rfl) (.t rfl)) ?_)))
      refine nil (pN ?_)
      first | refine condD rfl (fun h2 => ?_) (fun h2 => ?_) | refine cond rfl (fun h2 => ?_) (fun h2 => ?_)
      · refine seq (region (cons (opv (Ev.assign (.c (v := I 2) rfl)) ?_)))
        refine nil (pN (ret (pR (done rfl (.tmp rfl .nil) (retE ?_)))))
        have n0 : ¬ (checkP (l.rs.getD i.toNat eRoute.zero).to_ ≠ 0) := by simpa using h0
        have n1 : ¬ (portB l (l.rs.getD i.toNat eRoute.zero).out = false) := by simpa using h1
        have p2 : (findV SPrefix.eqb (l.rs.getD i.toNat eRoute.zero).to_ (routesM l)).getD 0 < i := by rw [hix3]; simpa using h2
        unfold routeE
        rw [if_neg n0, if_neg n1, if_pos p2]
        rfl
      · refine skip (pN (seq (region (cons (opv (Ev.assign (.c (v := I 0) rfl)) ?_)))))
        refine nil (pN (ret (done rfl (.tmp rfl .nil) (retE ?_))))
        have n0 : ¬ (checkP (l.rs.getD i.toNat eRoute.zero).to_ ≠ 0) := by simpa using h0
        have n1 : ¬ (portB l (l.rs.getD i.toNat eRoute.zero).out = false) := by simpa using h1
        have n2 : ¬ ((findV SPrefix.eqb (l.rs.getD i.toNat eRoute.zero).to_ (routesM l)).getD 0 < i) := by rw [hix3]; simpa using h2
        unfold routeE
        rw [if_neg n0, if_neg n1, if_neg n2]
        rfl
theorem en155 : Gx.Enters Tryz.prog 155 := Gx.Enters.mk' (by kernel_rfl)
theorem en126 : Gx.Enters Tryz.prog 126 := Gx.Enters.mk' (by kernel_rfl)
theorem en158 : Gx.Enters Tryz.prog 158 := Gx.Enters.mk' (by kernel_rfl)
theorem rckmeter_ok (c : SConf) (l : CL) (i : Int) (w : World) (hc : ConfAt w c l) (hi : 0 ≤ i ∧ i < l.ms.length) (hn : l.Names) : Calls Tryz.prog 122 #[eConf.val c, I i] w (RetV w (I (meterE l (l.ms.getD i.toNat eMeterConf.zero) i))) := by
  have hle := hc.ms.le
  have hs := hn.ms (l.ms.getD i.toNat eMeterConf.zero) (getD_in _ _ _ (by omega))
  have hix := find_at eqs_iff (fun r => r.name) l.ms eMeterConf.zero i.toNat (by omega)
  have hix3 := by
    have hix2 : (findV eqs (l.ms.getD i.toNat eMeterConf.zero).name (metersM l)).getD 0 = idxF (fun z => decide (z.name = (l.ms.getD i.toNat eMeterConf.zero).name)) l.ms := by
      refine hix.trans (congrArg (fun p => idxF p l.ms) (funext fun z => eqs_dec _ _))
    exact hix2
  refine enter0 27 Tryz.func122 rfl rfl (Nat.le_of_ble_eq_true rfl) ?_
  refine seq (region (cons (box (E := eConf) (.t rfl) (fun b1 => ?_))))
  refine cons (opv (Ev.assign (.c (v := I 0) rfl)) ?_)
  refine nil (pN (seq (region (cons (opv (Ev.fieldAddr (o := 3) (.t rfl) (by kernel_rfl)) ?_)))))
  refine cons (opv (Ev.ldx c.meters ty25 (.t rfl) SConf.l_meters) ?_)
  refine cons (opv (Ev.move (.t rfl)) (cons (opv (Ev.indexAddr Tryz.underlying25 ty57 (.t rfl) (.t rfl) (fun w I => (hc.keep0 I.keeps).ms) (fun _ => by omega)) ?_)))
  refine cons (opv (Ev.loadS0 ty57 (.t rfl) (fun w I => (hc.keep0 I.keeps).ms) (fun _ => by omega)) ?_)
  refine cons (alloc z57 (fun b2 => ?_))
  refine cons (stv ty57 (Lens.id _) (.t rfl) (.t rfl) ?_)
  refine nil (pN (seq (seq (region (cons (opv (Ev.fieldAddr (o := 0) (.t rfl) (by kernel_rfl)) ?_))))))
  refine cons (opv (Ev.ldv ty9 (.t rfl) SMeterConf.l_name) ?_)
  refine cons (callv en155 (.cons (.t rfl) .nil) (fun w I => rname_ok _ w hs) ?_)
  refine cons (opv (Ev.not (.t rfl)) ?_)
  refine nil (pN ?_)
  first | refine condD rfl (fun h0 => ?_) (fun h0 => ?_) | refine cond rfl (fun h0 => ?_) (fun h0 => ?_)
  · refine seq (region (cons (opv (Ev.assign (.c (v := I 201) rfl)) ?_)))
    refine nil (pN (ret (pR (done rfl (.tmp rfl .nil) (retE ?_)))))
    have p0 : nameB (l.ms.getD i.toNat eMeterConf.zero).name = false := by simpa using h0
    unfold meterE
    rw [if_pos p0]
    rfl
  · refine skip (pN (seq (seq (region (cons (opv (Ev.ldx c ty28 (.t rfl) (Lens.id _)) ?_))))))
    refine cons (opv (Ev.fieldAddr (o := 0) (.t rfl) (by kernel_rfl)) ?_)
    refine cons (opv (Ev.ldv ty9 (.t rfl) SMeterConf.l_name) ?_)
    refine cons (callv en126 (.cons (.t rfl) (.cons (.t rfl) .nil)) (fun w I => rmeter_ix c l _ w (hc.keep0 I.keeps)) ?_)
    refine cons (opv (Ev.move (.t rfl)) (cons (opv (Ev.lss_i (.t rfl) (.t rfl)) ?_)))
    refine cons (opv (Ev.move (.t rfl)) (cons (opg rfl rfl (Ev.fieldAddr (o := 1) (.t rfl) (by kernel_rfl)) ?_)))
    refine cons (opg rfl rfl (Ev.ldv ty55 (.g rfl id) SMeterConf.l_bucket) ?_)
    refine cons (callg rfl rfl en158 (.cons (.g rfl id) .nil) (fun hg w I => rbucket_ok _ w) ?_)
    refine cons (opg rfl rfl (Ev.neq_i (.g rfl id) (.c (v := I 0) rfl)) ?_)
    refine cons (opv (Ev.pickO (.t rfl) (.c (v := .bool true) rfl) (fun {_} h => by cases h; rfl) ⟨_, rfl⟩ (by intro h1 h; first | (rw [h] <;> rfl) | (rw [h1, h] <;> rfl) | (rw [h, h1] <;> rfl) | simp_all)) ?_)
    refine nil (pN ?_)
    first | refine condD rfl (fun h1 => ?_) (fun h1 => ?_) | refine cond rfl (fun h1 => ?_) (fun h1 => ?_)
    · refine seq (region (cons (opv (Ev.assign (.c (v := I 2) rfl)) ?_)))
      refine nil (pN (ret (pR (done rfl (.tmp rfl .nil) (retE ?_)))))
      have n0 : ¬ (nameB (l.ms.getD i.toNat eMeterConf.zero).name = false) := by simpa using h0
      have p1 : (findV eqs (l.ms.getD i.toNat eMeterConf.zero).name (metersM l)).getD 0 < i ∨ ckB (l.ms.getD i.toNat eMeterConf.zero).bucket ≠ 0 := by rw [hix3]; simpa using h1
      unfold meterE
      rw [if_neg n0, if_pos p1]
      rfl
    · refine skip (pN (seq (region (cons (opv (Ev.assign (.c (v := I 0) rfl)) ?_)))))
      refine nil (pN (ret (done rfl (.tmp rfl .nil) (retE ?_))))
      have n0 : ¬ (nameB (l.ms.getD i.toNat eMeterConf.zero).name = false) := by simpa using h0
      have n1 : ¬ ((findV eqs (l.ms.getD i.toNat eMeterConf.zero).name (metersM l)).getD 0 < i ∨ ckB (l.ms.getD i.toNat eMeterConf.zero).bucket ≠ 0) := by rw [hix3]; simpa using h1
      unfold meterE
      rw [if_neg n0, if_neg n1]
      rfl
theorem en127 : Gx.Enters Tryz.prog 127 := Gx.Enters.mk' (by kernel_rfl)
theorem en159 : Gx.Enters Tryz.prog 159 := Gx.Enters.mk' (by kernel_rfl)
theorem rckmirror_ok (c : SConf) (l : CL) (i : Int) (w : World) (hc : ConfAt w c l) (hi : 0 ≤ i ∧ i < l.xs.length) (hn : l.Names) : Calls Tryz.prog 123 #[eConf.val c, I i] w (RetV w (I (mirrorE l (l.xs.getD i.toNat eMirrorConf.zero) i))) := by
  have hle := hc.xs.le
  have hs := hn.xs (l.xs.getD i.toNat eMirrorConf.zero) (getD_in _ _ _ (by omega))
  have hix := find_at eqs_iff (fun r => r.name) l.xs eMirrorConf.zero i.toNat (by omega)
  have hix3 := by
    have hix2 : (findV eqs (l.xs.getD i.toNat eMirrorConf.zero).name (mirrorsM l)).getD 0 = idxF (fun z => decide (z.name = (l.xs.getD i.toNat eMirrorConf.zero).name)) l.xs := by
      refine hix.trans (congrArg (fun p => idxF p l.xs) (funext fun z => eqs_dec _ _))
    exact hix2
  refine enter0 30 Tryz.func123 rfl rfl (Nat.le_of_ble_eq_true rfl) ?_
  refine seq (region (cons (box (E := eConf) (.t rfl) (fun b1 => ?_))))
  refine cons (opv (Ev.assign (.c (v := I 0) rfl)) ?_)
  refine nil (pN (seq (region (cons (opv (Ev.fieldAddr (o := 4) (.t rfl) (by kernel_rfl)) ?_)))))
  refine cons (opv (Ev.ldx c.mirrors ty26 (.t rfl) SConf.l_mirrors) ?_)
  refine cons (opv (Ev.move (.t rfl)) (cons (opv (Ev.indexAddr Tryz.underlying26 ty59 (.t rfl) (.t rfl) (fun w I => (hc.keep0 I.keeps).xs) (fun _ => by omega)) ?_)))
  refine cons (opv (Ev.loadS0 ty59 (.t rfl) (fun w I => (hc.keep0 I.keeps).xs) (fun _ => by omega)) ?_)
  refine cons (alloc z59 (fun b2 => ?_))
  refine cons (stv ty59 (Lens.id _) (.t rfl) (.t rfl) ?_)
  refine nil (pN (seq (seq (region (cons (opv (Ev.fieldAddr (o := 0) (.t rfl) (by kernel_rfl)) ?_))))))
  refine cons (opv (Ev.ldv ty9 (.t rfl) SMirrorConf.l_name) ?_)
  refine cons (callv en155 (.cons (.t rfl) .nil) (fun w I => rname_ok _ w hs) ?_)
  refine cons (opv (Ev.not (.t rfl)) ?_)
  refine nil (pN ?_)
  first | refine condD rfl (fun h0 => ?_) (fun h0 => ?_) | refine cond rfl (fun h0 => ?_) (fun h0 => ?_)
  · refine seq (region (cons (opv (Ev.assign (.c (v := I 201) rfl)) ?_)))
    refine nil (pN (ret (pR (done rfl (.tmp rfl .nil) (retE ?_)))))
    have p0 : nameB (l.xs.getD i.toNat eMirrorConf.zero).name = false := by simpa using h0
    unfold mirrorE
    rw [if_pos p0]
    rfl
  · refine skip (pN (seq (seq (region (cons (opv (Ev.ldx c ty28 (.t rfl) (Lens.id _)) ?_))))))
    refine cons (opv (Ev.fieldAddr (o := 0) (.t rfl) (by kernel_rfl)) ?_)
    refine cons (opv (Ev.ldv ty9 (.t rfl) SMirrorConf.l_name) ?_)
    refine cons (callv en127 (.cons (.t rfl) (.cons (.t rfl) .nil)) (fun w I => rmirror_ix c l _ w (hc.keep0 I.keeps)) ?_)
    refine cons (opv (Ev.move (.t rfl)) (cons (opv (Ev.lss_i (.t rfl) (.t rfl)) ?_)))
    refine nil (pN ?_)
    first | refine condD rfl (fun h1 => ?_) (fun h1 => ?_) | refine cond rfl (fun h1 => ?_) (fun h1 => ?_)
    · refine seq (region (cons (opv (Ev.assign (.c (v := I 2) rfl)) ?_)))
      refine nil (pN (ret (pR (done rfl (.tmp rfl .nil) (retE ?_)))))
      have n0 : ¬ (nameB (l.xs.getD i.toNat eMirrorConf.zero).name = false) := by simpa using h0
      have p1 : (findV eqs (l.xs.getD i.toNat eMirrorConf.zero).name (mirrorsM l)).getD 0 < i := by rw [hix3]; simpa using h1
      unfold mirrorE
      rw [if_neg n0, if_pos p1]
      rfl
    · refine skip (pN (seq (seq (region (cons (opv (Ev.ldx c ty28 (.t rfl) (Lens.id _)) ?_))))))
      refine cons (opv (Ev.fieldAddr (o := 1) (.t rfl) (by kernel_rfl)) ?_)
      refine cons (opv (Ev.ldv ty3 (.t rfl) SMirrorConf.l_out) ?_)
      refine cons (callv en124 (.cons (.t rfl) (.cons (.t rfl) .nil)) (fun w I => rport_ok c l _ w (hc.keep0 I.keeps)) ?_)
      refine cons (opv (Ev.not (.t rfl)) ?_)
      refine nil (pN ?_)
      first | refine condD rfl (fun h2 => ?_) (fun h2 => ?_) | refine cond rfl (fun h2 => ?_) (fun h2 => ?_)
      · refine seq (region (cons (opv (Ev.assign (.c (v := I 5) rfl)) ?_)))
        refine nil (pN (ret (pR (done rfl (.tmp rfl .nil) (retE ?_)))))
        have n0 : ¬ (nameB (l.xs.getD i.toNat eMirrorConf.zero).name = false) := by simpa using h0
        have n1 : ¬ ((findV eqs (l.xs.getD i.toNat eMirrorConf.zero).name (mirrorsM l)).getD 0 < i) := by rw [hix3]; simpa using h1
        have p2 : portB l (l.xs.getD i.toNat eMirrorConf.zero).out = false := by simpa using h2
        unfold mirrorE
        rw [if_neg n0, if_neg n1, if_pos p2]
        rfl
      · refine skip (pN (seq (seq (region (cons (opv (Ev.fieldAddr (o := 2) (.t rfl) (by kernel_rfl)) ?_))))))
        refine cons (opv (Ev.ldv ty3 (.t rfl) SMirrorConf.l_room) ?_)
        refine cons (callv en159 (.cons (.t rfl) .nil) (fun w I => rroom_ok _ w) ?_)
        refine cons (opv (Ev.not (.t rfl)) ?_)
        refine nil (pN ?_)
        first | refine condD rfl (fun h3 => ?_) (fun h3 => ?_) | refine cond rfl (fun h3 => ?_) (fun h3 => ?_)
        · refine seq (region (cons (opv (Ev.assign (.c (v := I 2) rfl)) ?_)))
          refine nil (pN (ret (pR (done rfl (.tmp rfl .nil) (retE ?_)))))
          have n0 : ¬ (nameB (l.xs.getD i.toNat eMirrorConf.zero).name = false) := by simpa using h0
          have n1 : ¬ ((findV eqs (l.xs.getD i.toNat eMirrorConf.zero).name (mirrorsM l)).getD 0 < i) := by rw [hix3]; simpa using h1
          have n2 : ¬ (portB l (l.xs.getD i.toNat eMirrorConf.zero).out = false) := by simpa using h2
          have p3 : roomB (l.xs.getD i.toNat eMirrorConf.zero).room = false := by simpa using h3
          unfold mirrorE
          rw [if_neg n0, if_neg n1, if_neg n2, if_pos p3]
          rfl
        · refine skip (pN (seq (region (cons (opv (Ev.assign (.c (v := I 0) rfl)) ?_)))))
          refine nil (pN (ret (done rfl (.tmp rfl .nil) (retE ?_))))
          have n0 : ¬ (nameB (l.xs.getD i.toNat eMirrorConf.zero).name = false) := by simpa using h0
          have n1 : ¬ ((findV eqs (l.xs.getD i.toNat eMirrorConf.zero).name (mirrorsM l)).getD 0 < i) := by rw [hix3]; simpa using h1
          have n2 : ¬ (portB l (l.xs.getD i.toNat eMirrorConf.zero).out = false) := by simpa using h2
          have n3 : ¬ (roomB (l.xs.getD i.toNat eMirrorConf.zero).room = false) := by simpa using h3
          unfold mirrorE
          rw [if_neg n0, if_neg n1, if_neg n2, if_neg n3]
          rfl
theorem en156 : Gx.Enters Tryz.prog 156 := Gx.Enters.mk' (by kernel_rfl)
theorem en157 : Gx.Enters Tryz.prog 157 := Gx.Enters.mk' (by kernel_rfl)
theorem rckrule_ok (c : SConf) (l : CL) (i : Int) (w : World) (hc : ConfAt w c l) (hi : 0 ≤ i ∧ i < l.us.length) (hn : l.Names) : Calls Tryz.prog 121 #[eConf.val c, I i] w (RetV w (I (ruleE l (l.us.getD i.toNat eRule.zero) i))) := by
  have hle := hc.us.le
  have hs := hn.us (l.us.getD i.toNat eRule.zero) (getD_in _ _ _ (by omega))
  have hix := find_at eqs_iff (fun r => r.name) l.us eRule.zero i.toNat (by omega)
  have hix3 := by
    have hix2 : (findV eqs (l.us.getD i.toNat eRule.zero).name (rulesM l)).getD 0 = idxF (fun z => decide (z.name = (l.us.getD i.toNat eRule.zero).name)) l.us := by
      refine hix.trans (congrArg (fun p => idxF p l.us) (funext fun z => eqs_dec _ _))
    exact hix2
  have hm_meter : inM (metersM l) (l.us.getD i.toNat eRule.zero).meter = decide (¬ idxF (fun z => decide (z.name = (l.us.getD i.toNat eRule.zero).meter)) l.ms < 0) := by
    unfold inM metersM
    rw [find_idx eqs_iff]
    simp only [eqs_dec]
  have hm_mirror : inM (mirrorsM l) (l.us.getD i.toNat eRule.zero).mirror = decide (¬ idxF (fun z => decide (z.name = (l.us.getD i.toNat eRule.zero).mirror)) l.xs < 0) := by
    unfold inM mirrorsM
    rw [find_idx eqs_iff]
    simp only [eqs_dec]
  refine enter0 75 Tryz.func121 rfl rfl (Nat.le_of_ble_eq_true rfl) ?_
  refine seq (region (cons (box (E := eConf) (.t rfl) (fun b1 => ?_))))
  refine cons (opv (Ev.assign (.c (v := I 0) rfl)) ?_)
  refine nil (pN (seq (region (cons (opv (Ev.fieldAddr (o := 2) (.t rfl) (by kernel_rfl)) ?_)))))
  refine cons (opv (Ev.ldx c.rules ty24 (.t rfl) SConf.l_rules) ?_)
  refine cons (opv (Ev.move (.t rfl)) (cons (opv (Ev.indexAddr Tryz.underlying24 ty76 (.t rfl) (.t rfl) (fun w I => (hc.keep0 I.keeps).us) (fun _ => by omega)) ?_)))
  refine cons (opv (Ev.loadS0 ty76 (.t rfl) (fun w I => (hc.keep0 I.keeps).us) (fun _ => by omega)) ?_)
  refine cons (alloc z76 (fun b2 => ?_))
  refine cons (stv ty76 (Lens.id _) (.t rfl) (.t rfl) ?_)
  refine nil (pN (seq (seq (region (cons (opv (Ev.fieldAddr (o := 0) (.t rfl) (by kernel_rfl)) ?_))))))
  refine cons (opv (Ev.ldv ty9 (.t rfl) SRule.l_name) ?_)
  refine cons (callv en155 (.cons (.t rfl) .nil) (fun w I => rname_ok _ w hs) ?_)
  refine cons (opv (Ev.not (.t rfl)) ?_)
  refine nil (pN ?_)
  first | refine condD rfl (fun h0 => ?_) (fun h0 => ?_) | refine cond rfl (fun h0 => ?_) (fun h0 => ?_)
  · refine seq (region (cons (opv (Ev.assign (.c (v := I 201) rfl)) ?_)))
    refine nil (pN (ret (pR (done rfl (.tmp rfl .nil) (retE ?_)))))
    have p0 : nameB (l.us.getD i.toNat eRule.zero).name = false := by simpa using h0
    unfold ruleE
    rw [if_pos p0]
    rfl
  · refine skip (pN (seq (seq (region (cons (opv (Ev.ldx c ty28 (.t rfl) (Lens.id _)) ?_))))))
    refine cons (opv (Ev.fieldAddr (o := 0) (.t rfl) (by kernel_rfl)) ?_)
    refine cons (opv (Ev.ldv ty9 (.t rfl) SRule.l_name) ?_)
    refine cons (callv en156 (.cons (.t rfl) (.cons (.t rfl) .nil)) (fun w I => rrule_ix c l _ w (hc.keep0 I.keeps)) ?_)
    refine cons (opv (Ev.move (.t rfl)) (cons (opv (Ev.lss_i (.t rfl) (.t rfl)) ?_)))
    refine nil (pN ?_)
    first | refine condD rfl (fun h1 => ?_) (fun h1 => ?_) | refine cond rfl (fun h1 => ?_) (fun h1 => ?_)
    · refine seq (region (cons (opv (Ev.assign (.c (v := I 2) rfl)) ?_)))
      refine nil (pN (ret (pR (done rfl (.tmp rfl .nil) (retE ?_)))))
      have n0 : ¬ (nameB (l.us.getD i.toNat eRule.zero).name = false) := by simpa using h0
      have p1 : (findV eqs (l.us.getD i.toNat eRule.zero).name (rulesM l)).getD 0 < i := by rw [hix3]; simpa using h1
      unfold ruleE
      rw [if_neg n0, if_pos p1]
      rfl
    · refine skip (pN (seq (seq (region (cons (opv (Ev.fieldAddr (o := 1) (.t rfl) (by kernel_rfl)) ?_))))))
      refine cons (opv (Ev.ldv ty74 (.t rfl) SRule.l_match_) ?_)
      refine cons (callv en157 (.cons (.t rfl) .nil) (fun w I => rcheck_ok _ w) ?_)
      refine cons (opv (Ev.not (.t rfl)) ?_)
      refine nil (pN ?_)
      first | refine condD rfl (fun h2 => ?_) (fun h2 => ?_) | refine cond rfl (fun h2 => ?_) (fun h2 => ?_)
      · refine seq (region (cons (opv (Ev.assign (.c (v := I 190) rfl)) ?_)))
        refine nil (pN (ret (pR (done rfl (.tmp rfl .nil) (retE ?_)))))
        have n0 : ¬ (nameB (l.us.getD i.toNat eRule.zero).name = false) := by simpa using h0
        have n1 : ¬ ((findV eqs (l.us.getD i.toNat eRule.zero).name (rulesM l)).getD 0 < i) := by rw [hix3]; simpa using h1
        have p2 : okM (l.us.getD i.toNat eRule.zero).match_ = false := by simpa using h2
        unfold ruleE
        rw [if_neg n0, if_neg n1, if_pos p2]
        rfl
      · refine skip (pN (seq (seq (region (cons (opv (Ev.fieldAddr (o := 45) (.t rfl) (by kernel_rfl)) ?_))))))
        refine cons (opv (Ev.ldv ty3 (.t rfl) SRule.l_action) ?_)
        refine cons (opv (Ev.lss_i (.t rfl) (.c (v := I 1) rfl)) ?_)
        refine cons (opv (Ev.move (.t rfl)) (cons (opg rfl rfl (Ev.fieldAddr (o := 45) (.t rfl) (by kernel_rfl)) ?_)))
        refine cons (opg rfl rfl (Ev.ldv ty3 (.g rfl id) SRule.l_action) ?_)
        refine cons (opg rfl rfl (Ev.gtr_i (.g rfl id) (.c (v := I 4) rfl)) ?_)
        refine cons (opv (Ev.pickO (.t rfl) (.c (v := .bool true) rfl) (fun {_} h => by cases h; rfl) ⟨_, rfl⟩ (by intro h1 h; first | (rw [h] <;> rfl) | (rw [h1, h] <;> rfl) | (rw [h, h1] <;> rfl) | simp_all)) ?_)
        refine nil (pN ?_)
        first | refine condD rfl (fun h3 => ?_) (fun h3 => ?_) | refine cond rfl (fun h3 => ?_) (fun h3 => ?_)
        · refine seq (region (cons (opv (Ev.assign (.c (v := I 2) rfl)) ?_)))
          refine nil (pN (ret (pR (done rfl (.tmp rfl .nil) (retE ?_)))))
          have n0 : ¬ (nameB (l.us.getD i.toNat eRule.zero).name = false) := by simpa using h0
          have n1 : ¬ ((findV eqs (l.us.getD i.toNat eRule.zero).name (rulesM l)).getD 0 < i) := by rw [hix3]; simpa using h1
          have n2 : ¬ (okM (l.us.getD i.toNat eRule.zero).match_ = false) := by simpa using h2
          have p3 : (l.us.getD i.toNat eRule.zero).action < 1 ∨ 4 < (l.us.getD i.toNat eRule.zero).action := by simpa using h3
          unfold ruleE
          rw [if_neg n0, if_neg n1, if_neg n2, if_pos p3]
          rfl
        · refine skip (pN (seq (seq (region (cons (opv (Ev.fieldAddr (o := 45) (.t rfl) (by kernel_rfl)) ?_))))))
          refine cons (opv (Ev.ldv ty3 (.t rfl) SRule.l_action) ?_)
          refine cons (opv (Ev.eql_i (.t rfl) (.c (v := I 3) rfl)) ?_)
          refine cons (opv (Ev.move (.t rfl)) (cons (opg rfl rfl (Ev.ldx c ty28 (.t rfl) (Lens.id _)) ?_)))
          refine cons (opg rfl rfl (Ev.fieldAddr (o := 46) (.t rfl) (by kernel_rfl)) ?_)
          refine cons (opg rfl rfl (Ev.ldv ty3 (.g rfl id) SRule.l_out) ?_)
          refine cons (callg rfl rfl en124 (.cons (.g rfl id) (.cons (.g rfl id) .nil)) (fun hg w I => rport_ok c l _ w (hc.keep0 I.keeps)) ?_)
          refine cons (opg rfl rfl (Ev.not (.g rfl id)) ?_)
          refine cons (opv (Ev.pickA (.t rfl) (fun {_} h => by cases h; rfl) ⟨_, rfl⟩ (by intro h1 h; first | (rw [h] <;> rfl) | (rw [h1, h] <;> rfl) | (rw [h, h1] <;> rfl) | simp_all) (.c (v := .bool false) rfl)) ?_)
          refine cons (opv (Ev.move (.t rfl)) (cons (opg rfl rfl (Ev.fieldAddr (o := 45) (.t rfl) (by kernel_rfl)) ?_)))
          refine cons (opg rfl rfl (Ev.ldv ty3 (.g rfl id) SRule.l_action) ?_)
          refine cons (opg rfl rfl (Ev.neq_i (.g rfl id) (.c (v := I 3) rfl)) ?_)
          refine cons (opg rfl rfl (Ev.move (.g rfl id)) ?_)
          refine cons (opg rfl rfl (Ev.fieldAddr (o := 46) (.t rfl) (by kernel_rfl)) ?_)
          refine cons (opg rfl rfl (Ev.ldv ty3 (.g rfl id) SRule.l_out) ?_)
          refine cons (opg rfl rfl (Ev.neq_i (.g rfl id) (.c (v := I 0) rfl)) ?_)
          refine cons (opg rfl rfl (Ev.pickA (.g rfl id) (fun {_} h => by cases h; rfl) ⟨_, rfl⟩ (by intro h1 h; first | (rw [h] <;> rfl) | (rw [h1, h] <;> rfl) | (rw [h, h1] <;> rfl) | simp_all) (.c (v := .bool false) rfl)) ?_)
          refine cons (opv (Ev.pickO (.t rfl) (.c (v := .bool true) rfl) (fun {_} h => by cases h; rfl) ⟨_, rfl⟩ (by intro h1 h; first | (rw [h] <;> rfl) | (rw [h1, h] <;> rfl) | (rw [h, h1] <;> rfl) | simp_all)) ?_)
          refine nil (pN ?_)
          first | refine condD rfl (fun h4 => ?_) (fun h4 => ?_) | refine cond rfl (fun h4 => ?_) (fun h4 => ?_)
          · refine seq (region (cons (opv (Ev.assign (.c (v := I 5) rfl)) ?_)))
            refine nil (pN (ret (pR (done rfl (.tmp rfl .nil) (retE ?_)))))
            have n0 : ¬ (nameB (l.us.getD i.toNat eRule.zero).name = false) := by simpa using h0
            have n1 : ¬ ((findV eqs (l.us.getD i.toNat eRule.zero).name (rulesM l)).getD 0 < i) := by rw [hix3]; simpa using h1
            have n2 : ¬ (okM (l.us.getD i.toNat eRule.zero).match_ = false) := by simpa using h2
            have n3 : ¬ ((l.us.getD i.toNat eRule.zero).action < 1 ∨ 4 < (l.us.getD i.toNat eRule.zero).action) := by simpa using h3
            have p4 : ruleO l (l.us.getD i.toNat eRule.zero) = true := by unfold ruleO; by_cases ea : (l.us.getD i.toNat eRule.zero).action = 3 <;> simp_all
            unfold ruleE
            rw [if_neg n0, if_neg n1, if_neg n2, if_neg n3, if_pos p4]
            rfl
          · refine skip (pN (seq (seq (region (cons (opv (Ev.fieldAddr (o := 47) (.t rfl) (by kernel_rfl)) ?_))))))
            refine cons (opv (Ev.ldv ty9 (.t rfl) SRule.l_meter) ?_)
            refine cons (opv (Ev.neq_s (.t rfl) (.c (v := (Go.Value.string (ByteArray.mk #[]))) rfl)) ?_)
            refine cons (opv (Ev.move (.t rfl)) (cons (opg rfl rfl (Ev.ldx c ty28 (.t rfl) (Lens.id _)) ?_)))
            refine cons (opg rfl rfl (Ev.fieldAddr (o := 47) (.t rfl) (by kernel_rfl)) ?_)
            refine cons (opg rfl rfl (Ev.ldv ty9 (.g rfl id) SRule.l_meter) ?_)
            refine cons (callg rfl rfl en126 (.cons (.g rfl id) (.cons (.g rfl id) .nil)) (fun hg w I => rmeter_ix c l _ w (hc.keep0 I.keeps)) ?_)
            refine cons (opg rfl rfl (Ev.lss_i (.g rfl id) (.c (v := I 0) rfl)) ?_)
            refine cons (opv (Ev.pickA (.t rfl) (fun {_} h => by cases h; rfl) ⟨_, rfl⟩ (by intro h1 h; first | (rw [h] <;> rfl) | (rw [h1, h] <;> rfl) | (rw [h, h1] <;> rfl) | simp_all) (.c (v := .bool false) rfl)) ?_)
            refine cons (opv (Ev.move (.t rfl)) (cons (opg rfl rfl (Ev.fieldAddr (o := 48) (.t rfl) (by kernel_rfl)) ?_)))
            refine cons (opg rfl rfl (Ev.ldv ty9 (.g rfl id) SRule.l_mirror) ?_)
            refine cons (opg rfl rfl (Ev.neq_s (.g rfl id) (.c (v := (Go.Value.string (ByteArray.mk #[]))) rfl)) ?_)
            refine cons (opg rfl rfl (Ev.move (.g rfl id)) ?_)
            refine cons (opg rfl rfl (Ev.ldx c ty28 (.t rfl) (Lens.id _)) ?_)
            refine cons (opg rfl rfl (Ev.fieldAddr (o := 48) (.t rfl) (by kernel_rfl)) ?_)
            refine cons (opg rfl rfl (Ev.ldv ty9 (.g rfl id) SRule.l_mirror) ?_)
            refine cons (callg rfl rfl en127 (.cons (.g rfl id) (.cons (.g rfl id) .nil)) (fun hg w I => rmirror_ix c l _ w (hc.keep0 I.keeps)) ?_)
            refine cons (opg rfl rfl (Ev.lss_i (.g rfl id) (.c (v := I 0) rfl)) ?_)
            refine cons (opg rfl rfl (Ev.pickA (.g rfl id) (fun {_} h => by cases h; rfl) ⟨_, rfl⟩ (by intro h1 h; first | (rw [h] <;> rfl) | (rw [h1, h] <;> rfl) | (rw [h, h1] <;> rfl) | simp_all) (.c (v := .bool false) rfl)) ?_)
            refine cons (opv (Ev.pickO (.t rfl) (.c (v := .bool true) rfl) (fun {_} h => by cases h; rfl) ⟨_, rfl⟩ (by intro h1 h; first | (rw [h] <;> rfl) | (rw [h1, h] <;> rfl) | (rw [h, h1] <;> rfl) | simp_all)) ?_)
            refine nil (pN ?_)
            first | refine condD rfl (fun h5 => ?_) (fun h5 => ?_) | refine cond rfl (fun h5 => ?_) (fun h5 => ?_)
            · refine seq (region (cons (opv (Ev.assign (.c (v := I 210) rfl)) ?_)))
              refine nil (pN (ret (pR (done rfl (.tmp rfl .nil) (retE ?_)))))
              have n0 : ¬ (nameB (l.us.getD i.toNat eRule.zero).name = false) := by simpa using h0
              have n1 : ¬ ((findV eqs (l.us.getD i.toNat eRule.zero).name (rulesM l)).getD 0 < i) := by rw [hix3]; simpa using h1
              have n2 : ¬ (okM (l.us.getD i.toNat eRule.zero).match_ = false) := by simpa using h2
              have n3 : ¬ ((l.us.getD i.toNat eRule.zero).action < 1 ∨ 4 < (l.us.getD i.toNat eRule.zero).action) := by simpa using h3
              have n4 : ¬ (ruleO l (l.us.getD i.toNat eRule.zero) = true) := by unfold ruleO; by_cases ea : (l.us.getD i.toNat eRule.zero).action = 3 <;> simp_all
              have p5 : ((l.us.getD i.toNat eRule.zero).meter ≠ ⟨#[]⟩ ∧ inM (metersM l) (l.us.getD i.toNat eRule.zero).meter = false) ∨ ((l.us.getD i.toNat eRule.zero).mirror ≠ ⟨#[]⟩ ∧ inM (mirrorsM l) (l.us.getD i.toNat eRule.zero).mirror = false) := by rw [hm_meter, hm_mirror]; simpa using h5
              unfold ruleE
              rw [if_neg n0, if_neg n1, if_neg n2, if_neg n3, if_neg n4, if_pos p5]
              rfl
            · refine skip (pN (seq (region (cons (opv (Ev.assign (.c (v := I 0) rfl)) ?_)))))
              refine nil (pN (ret (done rfl (.tmp rfl .nil) (retE ?_))))
              have n0 : ¬ (nameB (l.us.getD i.toNat eRule.zero).name = false) := by simpa using h0
              have n1 : ¬ ((findV eqs (l.us.getD i.toNat eRule.zero).name (rulesM l)).getD 0 < i) := by rw [hix3]; simpa using h1
              have n2 : ¬ (okM (l.us.getD i.toNat eRule.zero).match_ = false) := by simpa using h2
              have n3 : ¬ ((l.us.getD i.toNat eRule.zero).action < 1 ∨ 4 < (l.us.getD i.toNat eRule.zero).action) := by simpa using h3
              have n4 : ¬ (ruleO l (l.us.getD i.toNat eRule.zero) = true) := by unfold ruleO; by_cases ea : (l.us.getD i.toNat eRule.zero).action = 3 <;> simp_all
              have n5 : ¬ (((l.us.getD i.toNat eRule.zero).meter ≠ ⟨#[]⟩ ∧ inM (metersM l) (l.us.getD i.toNat eRule.zero).meter = false) ∨ ((l.us.getD i.toNat eRule.zero).mirror ≠ ⟨#[]⟩ ∧ inM (mirrorsM l) (l.us.getD i.toNat eRule.zero).mirror = false)) := by rw [hm_meter, hm_mirror]; simpa using h5
              unfold ruleE
              rw [if_neg n0, if_neg n1, if_neg n2, if_neg n3, if_neg n4, if_neg n5]
              rfl
def szK (l : CL) (k : Nat) : Nat := [l.ps.length, l.rs.length, l.us.length, l.ms.length, l.xs.length].getD k 0
def limK (k : Nat) : Nat := [256, 1024, 256, 64, 16].getD k 0
def thingE (l : CL) (k i : Nat) : Int := if k = 0 then portE l.ps (l.ps.getD i iE.zero) i else if k = 1 then routeE l (l.rs.getD i eRoute.zero) i else if k = 2 then ruleE l (l.us.getD i eRule.zero) i else if k = 3 then meterE l (l.ms.getD i eMeterConf.zero) i else mirrorE l (l.xs.getD i eMirrorConf.zero) i
def baseK (l : CL) : Nat → Int
  | 0 => 0
  | k + 1 => baseK l k + (szK l k : Int)
def kindsF (l : CL) : Nat → List SFault
  | 0 => []
  | k + 1 => kindsF l k ++ listG (thingE l k) (baseK l k) (szK l k) (limK k)
theorem kindsF_all (l : CL) : kindsF l 5 = thingsF l := rfl
theorem baseK_all (l : CL) : baseK l 5 = 0 + (l.ps.length : Int) + l.rs.length + l.us.length + l.ms.length + l.xs.length := rfl
theorem baseK_nn (l : CL) : ∀ k, 0 ≤ baseK l k
  | 0 => Int.le_refl _
  | k + 1 => by have := baseK_nn l k; unfold baseK; omega
theorem baseK_le {l : CL} {n : Nat} (h : l.n ≤ n) : ∀ k, k ≤ 5 → baseK l k ≤ n := by
  intro k hk
  have h5 : baseK l 5 ≤ n := by rw [baseK_all]; unfold CL.n at h; omega
  have a4 : baseK l 5 = baseK l 4 + (szK l 4 : Int) := rfl
  have a3 : baseK l 4 = baseK l 3 + (szK l 3 : Int) := rfl
  have a2 : baseK l 3 = baseK l 2 + (szK l 2 : Int) := rfl
  have a1 : baseK l 2 = baseK l 1 + (szK l 1 : Int) := rfl
  have a0 : baseK l 1 = baseK l 0 + (szK l 0 : Int) := rfl
  have hk2 : k = 0 ∨ k = 1 ∨ k = 2 ∨ k = 3 ∨ k = 4 ∨ k = 5 := by omega
  rcases hk2 with rfl | rfl | rfl | rfl | rfl | rfl <;> omega
theorem lim_le : ∀ k, k < 5 → limK k ≤ 1024 := by
  have : ∀ q : Fin 5, limK q.val ≤ 1024 := by decide
  exact fun k hk => this ⟨k, hk⟩
theorem kindsF_len (l : CL) : ∀ k, k ≤ 5 → (kindsF l k).length ≤ k * 1025
  | 0, _ => by simp [kindsF]
  | k + 1, h => by
    have ih := kindsF_len l k (by omega)
    have hg := listG_len (thingE l k) (baseK l k) (szK l k) (limK k)
    have hl : limK k ≤ 1024 := by
      have : ∀ q : Fin 5, limK q.val ≤ 1024 := by decide
      exact this ⟨k, by omega⟩
    unfold kindsF
    rw [List.length_append]
    omega
theorem sz_vec (l : CL) (k : Nat) (hk : k < 5) : (#v[(l.ps.length : Int), l.rs.length, l.us.length, l.ms.length, l.xs.length] : Vector Int 5)[k] = (szK l k : Int) := by
  have h : k = 0 ∨ k = 1 ∨ k = 2 ∨ k = 3 ∨ k = 4 := by omega
  rcases h with rfl | rfl | rfl | rfl | rfl <;> rfl
theorem lim_vec (k : Nat) (hk : k < 5) : (#v[(256 : Int), 1024, 256, 64, 16] : Vector Int 5)[k] = (limK k : Int) := by
  have h : k = 0 ∨ k = 1 ∨ k = 2 ∨ k = 3 ∨ k = 4 := by omega
  rcases h with rfl | rfl | rfl | rfl | rfl <;> rfl
theorem en119 : Gx.Enters Tryz.prog 119 := Gx.Enters.mk' (by kernel_rfl)
theorem en120 : Gx.Enters Tryz.prog 120 := Gx.Enters.mk' (by kernel_rfl)
theorem en121 : Gx.Enters Tryz.prog 121 := Gx.Enters.mk' (by kernel_rfl)
theorem en122 : Gx.Enters Tryz.prog 122 := Gx.Enters.mk' (by kernel_rfl)
theorem en123 : Gx.Enters Tryz.prog 123 := Gx.Enters.mk' (by kernel_rfl)
theorem rthing_ok (c : SConf) (l : CL) (k : Nat) (i : Int) (w : World) (hc : ConfAt w c l) (hn : l.Names) (hk : k < 5) (hi : 0 ≤ i ∧ i < szK l k) : Calls Tryz.prog 47 #[eConf.val c, I (k : Int), I i] w (RetV w (I (thingE l k i.toNat))) := by
  refine enter0 31 Tryz.func47 rfl rfl (Nat.le_of_ble_eq_true rfl) ?_
  refine seq (region (cons (box (E := eConf) (.t rfl) (fun b1 => ?_))))
  refine cons (opv (Ev.assign (.c (v := I 0) rfl)) ?_)
  refine nil (pN (seq (seq (region (cons (opv (Ev.move (.t rfl)) (nil (pN (block (seq (region (cons (opv (Ev.eql_i (.t rfl) (.c (v := I 0) rfl)) ?_)))))))))))))
  refine cons (opv (Ev.assign (.t rfl)) (nil (pN ?_)))
  first | refine condD rfl (fun h0 => ?_) (fun h0 => ?_) | refine cond rfl (fun h0 => ?_) (fun h0 => ?_)
  · try simp only [nb] at h0
    refine seq ?_
    obtain rfl : k = 0 := by omega
    refine region (cons (opv (Ev.ldx c ty28 (.t rfl) (Lens.id _)) ?_))
    refine cons (opv (Ev.move (.t rfl)) (cons (callv en119 (.cons (.t rfl) (.cons (.t rfl) .nil)) (fun w I => rckport_ok c l _ w (hc.keep0 I.keeps) hi) ?_)))
    refine cons (opv (Ev.assign (.t rfl)) (nil (pN (ret (bR (pR (done rfl (.tmp rfl .nil) (retE ?_))))))))
    have ei : ((i.toNat : Nat) : Int) = i := by omega
    unfold thingE
    rw [ei]
    first
      | (rw [if_pos (by omega)]; rfl)
      | (rw [if_neg (by omega), if_pos (by omega)]; rfl)
      | (rw [if_neg (by omega), if_neg (by omega), if_pos (by omega)]; rfl)
      | (rw [if_neg (by omega), if_neg (by omega), if_neg (by omega), if_pos (by omega)]; rfl)
      | (rw [if_neg (by omega), if_neg (by omega), if_neg (by omega), if_neg (by omega)]; rfl)
  · try simp only [nb] at h0
    refine seq (region (cons (opv (Ev.eql_i (.t rfl) (.c (v := I 1) rfl)) ?_)))
    refine cons (opv (Ev.assign (.t rfl)) (nil (pN ?_)))
    first | refine condD rfl (fun h1 => ?_) (fun h1 => ?_) | refine cond rfl (fun h1 => ?_) (fun h1 => ?_)
    · try simp only [nb] at h1
      refine seq ?_
      obtain rfl : k = 1 := by omega
      refine region (cons (opv (Ev.ldx c ty28 (.t rfl) (Lens.id _)) ?_))
      refine cons (opv (Ev.move (.t rfl)) (cons (callv en120 (.cons (.t rfl) (.cons (.t rfl) .nil)) (fun w I => rckroute_ok c l _ w (hc.keep0 I.keeps) hi) ?_)))
      refine cons (opv (Ev.assign (.t rfl)) (nil (pN (ret (bR (pR (done rfl (.tmp rfl .nil) (retE ?_))))))))
      have ei : ((i.toNat : Nat) : Int) = i := by omega
      unfold thingE
      rw [ei]
      first
        | (rw [if_pos (by omega)]; rfl)
        | (rw [if_neg (by omega), if_pos (by omega)]; rfl)
        | (rw [if_neg (by omega), if_neg (by omega), if_pos (by omega)]; rfl)
        | (rw [if_neg (by omega), if_neg (by omega), if_neg (by omega), if_pos (by omega)]; rfl)
        | (rw [if_neg (by omega), if_neg (by omega), if_neg (by omega), if_neg (by omega)]; rfl)
    · try simp only [nb] at h1
      refine seq (region (cons (opv (Ev.eql_i (.t rfl) (.c (v := I 2) rfl)) ?_)))
      refine cons (opv (Ev.assign (.t rfl)) (nil (pN ?_)))
      first | refine condD rfl (fun h2 => ?_) (fun h2 => ?_) | refine cond rfl (fun h2 => ?_) (fun h2 => ?_)
      · try simp only [nb] at h2
        refine seq ?_
        obtain rfl : k = 2 := by omega
        refine region (cons (opv (Ev.ldx c ty28 (.t rfl) (Lens.id _)) ?_))
        refine cons (opv (Ev.move (.t rfl)) (cons (callv en121 (.cons (.t rfl) (.cons (.t rfl) .nil)) (fun w I => rckrule_ok c l _ w (hc.keep0 I.keeps) hi hn) ?_)))
        refine cons (opv (Ev.assign (.t rfl)) (nil (pN (ret (bR (pR (done rfl (.tmp rfl .nil) (retE ?_))))))))
        have ei : ((i.toNat : Nat) : Int) = i := by omega
        unfold thingE
        rw [ei]
        first
          | (rw [if_pos (by omega)]; rfl)
          | (rw [if_neg (by omega), if_pos (by omega)]; rfl)
          | (rw [if_neg (by omega), if_neg (by omega), if_pos (by omega)]; rfl)
          | (rw [if_neg (by omega), if_neg (by omega), if_neg (by omega), if_pos (by omega)]; rfl)
          | (rw [if_neg (by omega), if_neg (by omega), if_neg (by omega), if_neg (by omega)]; rfl)
      · try simp only [nb] at h2
        refine seq (region (cons (opv (Ev.eql_i (.t rfl) (.c (v := I 3) rfl)) ?_)))
        refine cons (opv (Ev.assign (.t rfl)) (nil (pN ?_)))
        first | refine condD rfl (fun h3 => ?_) (fun h3 => ?_) | refine cond rfl (fun h3 => ?_) (fun h3 => ?_)
        · try simp only [nb] at h3
          refine seq ?_
          obtain rfl : k = 3 := by omega
          refine region (cons (opv (Ev.ldx c ty28 (.t rfl) (Lens.id _)) ?_))
          refine cons (opv (Ev.move (.t rfl)) (cons (callv en122 (.cons (.t rfl) (.cons (.t rfl) .nil)) (fun w I => rckmeter_ok c l _ w (hc.keep0 I.keeps) hi hn) ?_)))
          refine cons (opv (Ev.assign (.t rfl)) (nil (pN (ret (bR (pR (done rfl (.tmp rfl .nil) (retE ?_))))))))
          have ei : ((i.toNat : Nat) : Int) = i := by omega
          unfold thingE
          rw [ei]
          first
            | (rw [if_pos (by omega)]; rfl)
            | (rw [if_neg (by omega), if_pos (by omega)]; rfl)
            | (rw [if_neg (by omega), if_neg (by omega), if_pos (by omega)]; rfl)
            | (rw [if_neg (by omega), if_neg (by omega), if_neg (by omega), if_pos (by omega)]; rfl)
            | (rw [if_neg (by omega), if_neg (by omega), if_neg (by omega), if_neg (by omega)]; rfl)
        · try simp only [nb] at h3
          refine skip (bN (pN (seq ?_)))
          obtain rfl : k = 4 := by omega
          refine region (cons (opv (Ev.ldx c ty28 (.t rfl) (Lens.id _)) ?_))
          refine cons (opv (Ev.move (.t rfl)) (cons (callv en123 (.cons (.t rfl) (.cons (.t rfl) .nil)) (fun w I => rckmirror_ok c l _ w (hc.keep0 I.keeps) hi hn) ?_)))
          refine cons (opv (Ev.assign (.t rfl)) (nil (pN (ret (done rfl (.tmp rfl .nil) (retE ?_))))))
          have ei : ((i.toNat : Nat) : Int) = i := by omega
          unfold thingE
          rw [ei]
          first
            | (rw [if_pos (by omega)]; rfl)
            | (rw [if_neg (by omega), if_pos (by omega)]; rfl)
            | (rw [if_neg (by omega), if_neg (by omega), if_pos (by omega)]; rfl)
            | (rw [if_neg (by omega), if_neg (by omega), if_neg (by omega), if_pos (by omega)]; rfl)
            | (rw [if_neg (by omega), if_neg (by omega), if_neg (by omega), if_neg (by omega)]; rfl)
theorem z99 : (Tryz.prog.info? 99).bind (·.zero) = some ((arrE 5 iE).val (arrE 5 iE).zero) := by kernel_rfl
theorem ty99 : TyOK Tryz.prog 99 (arrE 5 iE) := TyOK.mk' (by kernel_rfl) (by kernel_rfl)
theorem en47 : Gx.Enters Tryz.prog 47 := Gx.Enters.mk' (by kernel_rfl)
theorem rcheck_conf (c : SConf) (l : CL) (w : World) (hc : ConfAt w c l) (hn : l.Names) (hz : l.n ≤ 4611686018427387904) : Calls Tryz.prog 13 #[eConf.val c] w (RetO w eFault (checkF l c.default) 37) := by
  refine enter0 99 Tryz.func13 rfl rfl (Nat.le_of_ble_eq_true rfl) ?_
  refine seq (region (cons (box (E := eConf) (.t rfl) (fun b1 => ?_))))
  refine cons (opv (Ev.assign (.c (v := (Go.Value.slice none 0 0)) rfl)) ?_)
  refine nil (pN (seq (region (cons (opv (Ev.fieldAddr (o := 0) (.t rfl) (by kernel_rfl)) ?_)))))
  refine cons (opv (Ev.ldx c.ports ty22 (.t rfl) SConf.l_ports) ?_)
  refine cons (opv (Ev.len Tryz.underlying22 (.t rfl) (fun w I => (hc.keep0 I.keeps).ps)) ?_)
  refine cons (opv (Ev.fieldAddr (o := 1) (.t rfl) (by kernel_rfl)) ?_)
  refine cons (opv (Ev.ldx c.routes ty23 (.t rfl) SConf.l_routes) ?_)
  refine cons (opv (Ev.len Tryz.underlying23 (.t rfl) (fun w I => (hc.keep0 I.keeps).rs)) ?_)
  refine cons (opv (Ev.fieldAddr (o := 2) (.t rfl) (by kernel_rfl)) ?_)
  refine cons (opv (Ev.ldx c.rules ty24 (.t rfl) SConf.l_rules) ?_)
  refine cons (opv (Ev.len Tryz.underlying24 (.t rfl) (fun w I => (hc.keep0 I.keeps).us)) ?_)
  refine cons (opv (Ev.fieldAddr (o := 3) (.t rfl) (by kernel_rfl)) ?_)
  refine cons (opv (Ev.ldx c.meters ty25 (.t rfl) SConf.l_meters) ?_)
  refine cons (opv (Ev.len Tryz.underlying25 (.t rfl) (fun w I => (hc.keep0 I.keeps).ms)) ?_)
  refine cons (opv (Ev.fieldAddr (o := 4) (.t rfl) (by kernel_rfl)) ?_)
  refine cons (opv (Ev.ldx c.mirrors ty26 (.t rfl) SConf.l_mirrors) ?_)
  refine cons (opv (Ev.len Tryz.underlying26 (.t rfl) (fun w I => (hc.keep0 I.keeps).xs)) ?_)
  refine cons (opv (Ev.buildA z99 Tryz.underlying99 ty3 (.cons (.t rfl) (.cons (.t rfl) (.cons (.t rfl) (.cons (.t rfl) (.cons (.t rfl) .nil))))) (Fills.cons (lArr iE 0 (by decide)) rfl (Fills.cons (lArr iE 1 (by decide)) rfl (Fills.cons (lArr iE 2 (by decide)) rfl (Fills.cons (lArr iE 3 (by decide)) rfl (Fills.cons (lArr iE 4 (by decide)) rfl Fills.nil)))))) ?_)
  refine cons (alloc z99 (fun b2 => ?_))
  refine cons (stv ty99 (Lens.id _) (.t rfl) (.t rfl) ?_)
  refine nil (pN (seq (region (cons (opv (Ev.buildA z99 Tryz.underlying99 ty3 (.cons (.c (v := I 256) rfl) (.cons (.c (v := I 1024) rfl) (.cons (.c (v := I 256) rfl) (.cons (.c (v := I 64) rfl) (.cons (.c (v := I 16) rfl) .nil))))) (Fills.cons (lArr iE 0 (by decide)) rfl (Fills.cons (lArr iE 1 (by decide)) rfl (Fills.cons (lArr iE 2 (by decide)) rfl (Fills.cons (lArr iE 3 (by decide)) rfl (Fills.cons (lArr iE 4 (by decide)) rfl Fills.nil)))))) ?_)))))
  refine cons (alloc z99 (fun b3 => ?_))
  refine cons (stv ty99 (Lens.id _) (.t rfl) (.t rfl) ?_)
  refine nil (pN (seq (takeNil eFault 37 ?_)))
  refine region (cons (opv (Ev.assign (.c (v := (Go.Value.slice none 0 0)) rfl)) ?_))
  refine takeNil eFault 37 ?_
  refine nil (pN (seq (region (cons (opv (Ev.assign (.c (v := I 0) rfl)) ?_)))))
  refine nil (pN (seq (seq (region (cons (opv (Ev.assign (.c (v := I 0) rfl)) ?_))))))
  refine nil (pN (block (lp (X := Nat × OV) (fun x : Nat × OV => (x.1 ≤ 5)) (fun x : Nat × OV => [(1, true, .pointer (some ⟨b1, 0, none⟩)), (3, true, .pointer (some ⟨b2, 0, none⟩)), (4, true, .pointer (some ⟨b3, 0, none⟩)), (5, true, x.2.v), (6, true, I (baseK l x.1)), (7, true, I (x.1 : Int))]) (fun x : Nat × OV => [OwnS x.2.v eFault (kindsF l x.1) 37, Var b3 (arrE 5 iE) (#v[(256 : Int), 1024, 256, 64, 16] : Vector Int 5) 99, Var b2 (arrE 5 iE) (#v[(l.ps.length : Int), l.rs.length, l.us.length, l.ms.length, l.xs.length] : Vector Int 5) 99, Var b1 eConf c 28]) (fun x : Nat × OV => 5 - x.1) (0, nilSl) ?_ (fun x hx => ?_))))
  · omega
  obtain ⟨k, q⟩ := x
  have hk : k ≤ 5 := hx
  clear hx
  show Sat _ _ [(1, true, .pointer (some ⟨b1, 0, none⟩)), (3, true, .pointer (some ⟨b2, 0, none⟩)), (4, true, .pointer (some ⟨b3, 0, none⟩)), (5, true, q.v), (6, true, I (baseK l k)), (7, true, I (k : Int))] [OwnS q.v eFault (kindsF l k) 37, Var b3 (arrE 5 iE) (#v[(256 : Int), 1024, 256, 64, 16] : Vector Int 5) 99, Var b2 (arrE 5 iE) (#v[(l.ps.length : Int), l.rs.length, l.us.length, l.ms.length, l.xs.length] : Vector Int 5) 99, Var b1 eConf c 28]
  have hb0 := baseK_nn l k
  have hbl := baseK_le hz k hk
  refine seq (seq (region (cons (opv (Ev.to (v' := I (k : Int)) (Ev.move (.t rfl)) (rfl)) ?_))))
  refine cons (opv (Ev.lss_i (.t rfl) (.c (v := I 5) rfl)) ?_)
  refine nil (pN ?_)
  first | refine condD rfl (fun h0 => ?_) (fun h0 => ?_) | refine cond rfl (fun h0 => ?_) (fun h0 => ?_)
  · try simp only [nb] at h0
    have hkk : k < 5 := by omega
    have hlm : limK k ≤ 1024 := lim_le k hkk
    have hb1 := baseK_le hz (k + 1) (by omega)
    have hb2 : baseK l (k + 1) = baseK l k + (szK l k : Int) := rfl
    refine skip (pN (seq (block (seq (seq (region (cons (opv (Ev.assign (.c (v := I 0) rfl)) ?_))))))))
    refine nil (pN (block (lp (X := Int × OV) (fun x : Int × OV => (0 ≤ x.1 ∧ x.1 ≤ szK l k ∧ x.1 ≤ limK k)) (fun x : Int × OV => [(1, true, .pointer (some ⟨b1, 0, none⟩)), (3, true, .pointer (some ⟨b2, 0, none⟩)), (4, true, .pointer (some ⟨b3, 0, none⟩)), (5, true, x.2.v), (6, true, I (baseK l k)), (7, true, I (k : Int)), (8, true, I x.1)]) (fun x : Int × OV => [OwnS x.2.v eFault (kindsF l k ++ faultsUp (thingE l k) (baseK l k) x.1.toNat) 37, Var b3 (arrE 5 iE) (#v[(256 : Int), 1024, 256, 64, 16] : Vector Int 5) 99, Var b2 (arrE 5 iE) (#v[(l.ps.length : Int), l.rs.length, l.us.length, l.ms.length, l.xs.length] : Vector Int 5) 99, Var b1 eConf c 28]) (fun x : Int × OV => ((szK l k : Int) - x.1).toNat) (0, q) ?_ (fun x hx => ?_) (hL := (by simp only [show (0 : Int).toNat = 0 from rfl, faultsUp, List.append_nil]; repeat first | exact sR | exact sN | apply sC | apply sS | apply sA)))))
    · omega
    obtain ⟨i, q1⟩ := x
    have hi : 0 ≤ i ∧ i ≤ szK l k ∧ i ≤ limK k := hx
    clear hx
    show Sat _ _ [(1, true, .pointer (some ⟨b1, 0, none⟩)), (3, true, .pointer (some ⟨b2, 0, none⟩)), (4, true, .pointer (some ⟨b3, 0, none⟩)), (5, true, q1.v), (6, true, I (baseK l k)), (7, true, I (k : Int)), (8, true, I i)] [OwnS q1.v eFault (kindsF l k ++ faultsUp (thingE l k) (baseK l k) i.toNat) 37, Var b3 (arrE 5 iE) (#v[(256 : Int), 1024, 256, 64, 16] : Vector Int 5) 99, Var b2 (arrE 5 iE) (#v[(l.ps.length : Int), l.rs.length, l.us.length, l.ms.length, l.xs.length] : Vector Int 5) 99, Var b1 eConf c 28]
    refine seq (seq (region (cons (opv (Ev.move (.t rfl)) (cons (opv (Ev.move (.t rfl)) (cons (opv (Ev.indexAddrA0 Tryz.underlying99 ty3 (.t rfl) (.t rfl) (fun _ => by omega)) ?_))))))))
    refine cons (opv (Ev.to (v' := I (szK l k : Nat)) (Ev.ldv ty3 (.t rfl) (lArr (n := 5) iE _ (by omega))) (congrArg I (sz_vec l k hkk))) ?_)
    refine cons (opv (Ev.lss_i (.t rfl) (.t rfl)) ?_)
    refine cons (opv (Ev.move (.t rfl)) (cons (opg rfl rfl (Ev.move (.t rfl)) ?_)))
    refine cons (opg rfl rfl (Ev.move (.t rfl)) ?_)
    refine cons (opg rfl rfl (Ev.indexAddrA0 Tryz.underlying99 ty3 (.t rfl) (.g rfl id) (fun _ => by first | omega | (rename_i hg; simp at hg; omega))) ?_)
    refine cons (opg rfl rfl (Ev.to (v' := I (limK k : Nat)) (Ev.ldv ty3 (.g rfl id) (lArr (n := 5) iE _ (by first | omega | (rename_i hg; simp at hg; omega)))) (congrArg I (lim_vec k hkk))) ?_)
    refine cons (opg rfl rfl (Ev.lss_i (.g rfl id) (.g rfl id)) ?_)
    refine cons (opv (Ev.pickA (.t rfl) (fun {_} h => by cases h; rfl) ⟨_, rfl⟩ (by intro h1 h; first | (rw [h] <;> rfl) | (rw [h1, h] <;> rfl) | (rw [h, h1] <;> rfl) | simp_all) (.c (v := .bool false) rfl)) ?_)
    refine nil (pN ?_)
    first | refine condD rfl (fun h1 => ?_) (fun h1 => ?_) | refine cond rfl (fun h1 => ?_) (fun h1 => ?_)
    · try simp only [nb] at h1
      refine skip (pN (seq (block (seq (region (cons (opv (Ev.ldx c ty28 (.t rfl) (Lens.id _)) ?_)))))))
      refine cons (opv (Ev.move (.t rfl)) (cons (opv (Ev.move (.t rfl)) (cons (callv en47 (.cons (.t rfl) (.cons (.t rfl) (.cons (.t rfl) .nil))) (fun w I => rthing_ok c l k _ w (hc.keep0 I.keeps) hn hkk (by omega)) ?_)))))
      refine cons (opv (Ev.assign (.t rfl)) (nil (pN (seq (region (cons (opv (Ev.move (.t rfl)) (cons (opv (Ev.neq_i (.t rfl) (.c (v := I 0) rfl)) ?_)))))))))
      refine nil (pN ?_)
      first | refine condD rfl (fun h2 => ?_) (fun h2 => ?_) | refine cond rfl (fun h2 => ?_) (fun h2 => ?_)
      · try simp only [nb] at h2
        have hst := faultsUp_bad (e := thingE l k) (d := baseK l k) hi.1 h2
        refine region (cons (opv (Ev.move (.t rfl)) (cons (opv (Ev.move (.t rfl)) (cons (opv (Ev.move (.t rfl)) (cons (opv (Ev.move (.t rfl)) (cons (opv (Ev.add_i (.t rfl) (.t rfl) (fun _ => by omega)) ?_))))))))))
        refine cons (opv (Ev.buildS (fs := _) (places := [(0, 1), (1, 1)]) z37 rfl Tryz.underlying37 (by kernel_rfl) (.cons (.t rfl) (.cons (.t rfl) .nil)) (Fills.cons SFault.l_code rfl (Fills.cons SFault.l_at_ rfl Fills.nil))) ?_)
        refine cons (buildSlice (E := eFault) Tryz.underlying31 ty37 z37 (.cons (.t rfl) .nil) rfl rfl (fun v4 => ?_))
        refine cons (app (E := eFault) Tryz.underlying31 ty37 zb37 zs37 (.t rfl) (.t rfl) (fun v5 => ?_) (hby := ⟨by (show _ ≤ 9223372036854775807); have h1l := kindsF_len l k (by omega); have h2l := faultsUp_len (thingE l k) (baseK l k) i.toNat; simp only [List.length_append, List.length_cons, List.length_nil]; omega, by have h1l := kindsF_len l k (by omega); have h2l := faultsUp_len (thingE l k) (baseK l k) i.toNat; simp only [List.length_append, List.length_cons, List.length_nil]; omega⟩))
        refine cons (opv (Ev.assign (.t rfl)) (nil (bN (pN (region (cons (opv (Ev.move (.t rfl)) (cons (opv (Ev.add_i (.t rfl) (.c (v := I 1) rfl) (fun _ => by omega)) ?_)))))))))
        refine cons (opv (Ev.assign (.t rfl)) (nil (pN (nx (X := Int × OV) (i + 1, _) ?_ ?_ (hL := (by rw [hst]; (try rw [← List.append_assoc]); repeat first | exact sR | exact sN | apply sC | apply sS | apply sA))))))
        · try dsimp only
          omega
        · try dsimp only
          omega
      · try simp only [nb] at h2
        have hst := faultsUp_ok (e := thingE l k) (d := baseK l k) hi.1 h2
        refine skip (bN (pN (region (cons (opv (Ev.move (.t rfl)) (cons (opv (Ev.add_i (.t rfl) (.c (v := I 1) rfl) (fun _ => by omega)) ?_)))))))
        refine cons (opv (Ev.assign (.t rfl)) (nil (pN (nx (X := Int × OV) (i + 1, _) ?_ ?_ (hL := (by rw [hst]; (try rw [← List.append_assoc]); repeat first | exact sR | exact sN | apply sC | apply sS | apply sA))))))
        · try dsimp only
          omega
        · try dsimp only
          omega
    · try simp only [nb] at h1
      refine exit (pX (pX (bX (pN (seq (seq ?_))))))
      have him : i.toNat = min (szK l k) (limK k) := by omega
      rw [him]
      refine draw' (by kernel_rfl) ?_
      refine tk 0 rfl (Ev.move (.t rfl)) ?_
      refine tk 1 rfl (Ev.indexAddrA0 Tryz.underlying99 ty3 (.t rfl) (.t rfl) (fun _ => by omega)) ?_
      refine tk 2 rfl (Ev.to (v' := I (szK l k : Nat)) (Ev.ldv ty3 (.t rfl) (lArr (n := 5) iE _ (by omega))) (congrArg I (sz_vec l k hkk))) ?_
      refine tk 3 rfl (Ev.move (.t rfl)) ?_
      refine tk 4 rfl (Ev.indexAddrA0 Tryz.underlying99 ty3 (.t rfl) (.t rfl) (fun _ => by omega)) ?_
      refine tk 5 rfl (Ev.to (v' := I (limK k : Nat)) (Ev.ldv ty3 (.t rfl) (lArr (n := 5) iE _ (by omega))) (congrArg I (lim_vec k hkk))) ?_
      refine tk 6 rfl (Ev.gtr_i (.t rfl) (.t rfl)) ?_
      refine ovr (pN ?_)
      first | refine condD rfl (fun h3 => ?_) (fun h3 => ?_) | refine cond rfl (fun h3 => ?_) (fun h3 => ?_)
      · try simp only [nb] at h3
        refine region (cons (opv (Ev.move (.t rfl)) (cons (opv (Ev.move (.t rfl)) (cons (opv (Ev.move (.t rfl)) (cons (opv (Ev.indexAddrA0 Tryz.underlying99 ty3 (.t rfl) (.t rfl) (fun _ => by omega)) ?_))))))))
        refine cons (opv (Ev.to (v' := I (limK k : Nat)) (Ev.ldv ty3 (.t rfl) (lArr (n := 5) iE _ (by omega))) (congrArg I (lim_vec k hkk))) ?_)
        refine cons (opv (Ev.add_i (.t rfl) (.t rfl) (fun _ => by omega)) ?_)
        refine cons (opv (Ev.buildS (fs := _) (places := [(0, 1), (1, 1)]) z37 rfl Tryz.underlying37 (by kernel_rfl) (.cons (.c (v := I 4) rfl) (.cons (.t rfl) .nil)) (Fills.cons SFault.l_code rfl (Fills.cons SFault.l_at_ rfl Fills.nil))) ?_)
        refine cons (buildSlice (E := eFault) Tryz.underlying31 ty37 z37 (.cons (.t rfl) .nil) rfl rfl (fun v6 => ?_))
        refine cons (app (E := eFault) Tryz.underlying31 ty37 zb37 zs37 (.t rfl) (.t rfl) (fun v7 => ?_) (hby := ⟨by (show _ ≤ 9223372036854775807); have h1l := kindsF_len l k (by omega); have h2l := faultsUp_len (thingE l k) (baseK l k) (min (szK l k) (limK k)); simp only [List.length_append, List.length_cons, List.length_nil]; omega, by have h1l := kindsF_len l k (by omega); have h2l := faultsUp_len (thingE l k) (baseK l k) (min (szK l k) (limK k)); simp only [List.length_append, List.length_cons, List.length_nil]; omega⟩))
        refine cons (opv (Ev.assign (.t rfl)) (nil (pN (region (cons (opv (Ev.move (.t rfl)) (cons (opv (Ev.move (.t rfl)) (cons (opv (Ev.indexAddrA0 Tryz.underlying99 ty3 (.t rfl) (.t rfl) (fun _ => by omega)) ?_))))))))))
        refine cons (opv (Ev.to (v' := I (szK l k : Nat)) (Ev.ldv ty3 (.t rfl) (lArr (n := 5) iE _ (by omega))) (congrArg I (sz_vec l k hkk))) ?_)
        refine cons (opv (Ev.add_i (.t rfl) (.t rfl) (fun _ => by omega)) ?_)
        refine cons (opv (Ev.assign (.t rfl)) (nil (bN (pN (region (cons (opv (Ev.move (.t rfl)) (cons (opv (Ev.add_i (.t rfl) (.c (v := I 1) rfl) (fun _ => by omega)) ?_)))))))))
        refine cons (opv (Ev.assign (.t rfl)) (nil (pN (nx (X := Nat × OV) (k + 1, _) ?_ ?_ (hL := (by rw [show kindsF l (k + 1) = kindsF l k ++ listG (thingE l k) (baseK l k) (szK l k) (limK k) from rfl]; unfold listG; (first | rw [if_pos (by omega), ← List.append_assoc] | rw [if_neg (by omega), List.append_nil]); repeat first | exact sR | exact sN | apply sC | apply sS | apply sA))))))
        · try dsimp only
          omega
        · try dsimp only
          omega
      · try simp only [nb] at h3
        refine skip (pN (region (cons (opv (Ev.move (.t rfl)) (cons (opv (Ev.move (.t rfl)) (cons (opv (Ev.indexAddrA0 Tryz.underlying99 ty3 (.t rfl) (.t rfl) (fun _ => by omega)) ?_))))))))
        refine cons (opv (Ev.to (v' := I (szK l k : Nat)) (Ev.ldv ty3 (.t rfl) (lArr (n := 5) iE _ (by omega))) (congrArg I (sz_vec l k hkk))) ?_)
        refine cons (opv (Ev.add_i (.t rfl) (.t rfl) (fun _ => by omega)) ?_)
        refine cons (opv (Ev.assign (.t rfl)) (nil (bN (pN (region (cons (opv (Ev.move (.t rfl)) (cons (opv (Ev.add_i (.t rfl) (.c (v := I 1) rfl) (fun _ => by omega)) ?_)))))))))
        refine cons (opv (Ev.assign (.t rfl)) (nil (pN (nx (X := Nat × OV) (k + 1, _) ?_ ?_ (hL := (by rw [show kindsF l (k + 1) = kindsF l k ++ listG (thingE l k) (baseK l k) (szK l k) (limK k) from rfl]; unfold listG; (first | rw [if_pos (by omega), ← List.append_assoc] | rw [if_neg (by omega), List.append_nil]); repeat first | exact sR | exact sN | apply sC | apply sS | apply sA))))))
        · try dsimp only
          omega
        · try dsimp only
          omega
  · try simp only [nb] at h0
    obtain rfl : k = 5 := by omega
    refine exit (pX (pX (bX (pN (cut (X := OV) (fun x : OV => True) (fun x : OV => [(5, true, x.v)]) (fun x : OV => [OwnS x.v eFault (checkF l c.default) 37]) ?_ (fun x hx => ?_))))))
    · refine seq ?_
      rw [kindsF_all, baseK_all]
      refine region (cons (opv (Ev.fieldAddr (o := 5) (.t rfl) (by kernel_rfl)) ?_))
      refine cons (opv (Ev.ldx c.default ty3 (.t rfl) SConf.l_default) ?_)
      refine cons (opv (Ev.neq_i (.t rfl) (.c (v := I 1) rfl)) ?_)
      refine cons (opv (Ev.move (.t rfl)) (cons (opg rfl rfl (Ev.fieldAddr (o := 5) (.t rfl) (by kernel_rfl)) ?_)))
      refine cons (opg rfl rfl (Ev.ldx c.default ty3 (.g rfl id) SConf.l_default) ?_)
      refine cons (opg rfl rfl (Ev.neq_i (.g rfl id) (.c (v := I 2) rfl)) ?_)
      refine cons (opv (Ev.pickA (.t rfl) (fun {_} h => by cases h; rfl) ⟨_, rfl⟩ (by intro h1 h; first | (rw [h] <;> rfl) | (rw [h1, h] <;> rfl) | (rw [h, h1] <;> rfl) | simp_all) (.c (v := .bool false) rfl)) ?_)
      refine cons (opv (Ev.move (.t rfl)) (cons (opg rfl rfl (Ev.fieldAddr (o := 5) (.t rfl) (by kernel_rfl)) ?_)))
      refine cons (opg rfl rfl (Ev.ldx c.default ty3 (.g rfl id) SConf.l_default) ?_)
      refine cons (opg rfl rfl (Ev.neq_i (.g rfl id) (.c (v := I 4) rfl)) ?_)
      refine cons (opv (Ev.pickA (.t rfl) (fun {_} h => by cases h; rfl) ⟨_, rfl⟩ (by intro h1 h; first | (rw [h] <;> rfl) | (rw [h1, h] <;> rfl) | (rw [h, h1] <;> rfl) | simp_all) (.c (v := .bool false) rfl)) ?_)
      refine nil (pN ?_)
      first | refine condD rfl (fun h4 => ?_) (fun h4 => ?_) | refine cond rfl (fun h4 => ?_) (fun h4 => ?_)
      · have hdb : defBad c.default = true := (defBad_eq _).trans h4
        refine region (cons (opv (Ev.move (.t rfl)) (cons (opv (Ev.move (.t rfl)) (cons (opv (Ev.buildS (fs := _) (places := [(0, 1), (1, 1)]) z37 rfl Tryz.underlying37 (by kernel_rfl) (.cons (.c (v := I 2) rfl) (.cons (.t rfl) .nil)) (Fills.cons SFault.l_code rfl (Fills.cons SFault.l_at_ rfl Fills.nil))) ?_))))))
        refine cons (buildSlice (E := eFault) Tryz.underlying31 ty37 z37 (.cons (.t rfl) .nil) rfl rfl (fun v8 => ?_))
        refine cons (app (E := eFault) Tryz.underlying31 ty37 zb37 zs37 (.t rfl) (.t rfl) (fun v9 => ?_) (hby := ⟨by (show _ ≤ 9223372036854775807); have := thingsF_len l; simp only [List.length_cons, List.length_nil]; omega, by have := thingsF_len l; simp only [List.length_cons, List.length_nil]; omega⟩))
        refine cons (opv (Ev.assign (.t rfl)) (nil (pN (mt (X := OV) (_) trivial (hL := (by unfold checkF; (first | rw [if_pos hdb] | rw [if_neg hdb, List.append_nil]); repeat first | exact sR | exact sN | apply sC | apply sS | apply sA))))))
      · have hdb : ¬ defBad c.default = true := by rw [show defBad c.default = false from (defBad_eq _).trans h4]; exact Bool.false_ne_true
        refine skip (pN (mt (X := OV) (_) trivial (hL := (by unfold checkF; (first | rw [if_pos hdb] | rw [if_neg hdb, List.append_nil]); repeat first | exact sR | exact sN | apply sC | apply sS | apply sA))))
    obtain ⟨q2, rfl⟩ : ∃ y, y = x := ⟨x, rfl⟩
    show Sat _ _ [(5, true, q2.v)] [OwnS q2.v eFault (checkF l c.default) 37]
    refine seq (region (cons (opv (Ev.move (.t rfl)) (cons (opv (Ev.assign (.t rfl)) (nil (pN (ret (done rfl (.tmp rfl .nil) (retOE (by repeat first | exact mH | apply mT | apply mA) ?_))))))))))
    rfl
def mkRo : SRoute := { eRoute.zero with out := 777 }
def mkRu : SRule := { eRule.zero with out := 777 }
def mkMe : SMeterConf := { eMeterConf.zero with name := ⟨#[55, 55, 55]⟩ }
def mkMi : SMirrorConf := { eMirrorConf.zero with out := 777 }
def markL (l : CL) : CL := ⟨l.ps ++ [(777 : Int)], l.rs ++ [mkRo], l.us ++ [mkRu], l.ms ++ [mkMe], l.xs ++ [mkMi]⟩
def takeC (l : CL) (n : Nat) : CL := ⟨l.ps.take n, l.rs.take n, l.us.take n, l.ms.take n, l.xs.take n⟩
def subC (x : CB) (l : CL) : CB := ⟨OV.sub iE.size x.o1 0 l.ps.length, OV.sub eRoute.size x.o2 0 l.rs.length, OV.sub eRule.size x.o3 0 l.us.length, OV.sub eMeterConf.size x.o4 0 l.ms.length, OV.sub eMirrorConf.size x.o5 0 l.xs.length⟩
theorem take_mark {α : Type} (l : List α) (x : α) : (l ++ [x]).take l.length = l := List.take_left
theorem isSl_mark {α : Type} {E : Enc α} {w : World} {v : Value} {l : List α} {x : α} (h : IsSl E w v (l ++ [x])) : IsSl E w (subS E.size v 0 l.length) l := by
  have := h.sub (l := 0) (k := l.length) (by omega) (by simp)
  rwa [take_mark, List.drop_zero] at this
theorem ConfAt.sub {w : World} {x : CB} {l : CL} {d : Int} (h : ConfAt w (x.c d) (markL l)) : ConfAt w ((subC x l).c d) l := ⟨isSl_mark h.ps, isSl_mark h.rs, isSl_mark h.us, isSl_mark h.ms, isSl_mark h.xs⟩
theorem take_min {α : Type} (l : List α) (n m : Nat) (h : (m : Int) = min (l.length : Int) n) : l.take m = l.take n := by
  rcases Nat.le_total l.length n with h2 | h2
  · rw [List.take_of_length_le h2, List.take_of_length_le (by omega)]
  · have : m = n := by omega
    rw [this]
theorem takeC_len (l : CL) (n : Nat) : (takeC l n).ps.length ≤ n ∧ (takeC l n).rs.length ≤ n ∧ (takeC l n).us.length ≤ n ∧ (takeC l n).ms.length ≤ n ∧ (takeC l n).xs.length ≤ n := by
  unfold takeC
  simp only [List.length_take]
  omega
theorem cut_ok (c : SConf) (l : CL) (most : Nat) (w : World) (hc : ConfAt w c l) (hm : most ≤ 2000) : Calls Tryz.prog 10 #[eConf.val c, I (most : Nat)] w (RetN w (fun _ : CB => True) (fun x => eConf.val ((subC x (takeC l most)).c c.default)) (fun x => x.R (markL (takeC l most)))) := by
  obtain ⟨m0, hm0⟩ : ∃ m : Nat, (m : Int) = min (l.ps.length : Int) most := ⟨min l.ps.length most, by omega⟩
  obtain ⟨m1, hm1⟩ : ∃ m : Nat, (m : Int) = min (l.rs.length : Int) most := ⟨min l.rs.length most, by omega⟩
  obtain ⟨m2, hm2⟩ : ∃ m : Nat, (m : Int) = min (l.us.length : Int) most := ⟨min l.us.length most, by omega⟩
  obtain ⟨m3, hm3⟩ : ∃ m : Nat, (m : Int) = min (l.ms.length : Int) most := ⟨min l.ms.length most, by omega⟩
  obtain ⟨m4, hm4⟩ : ∃ m : Nat, (m : Int) = min (l.xs.length : Int) most := ⟨min l.xs.length most, by omega⟩
  obtain ⟨hl1, hl2, hl3, hl4, hl5⟩ := takeC_len l most
  refine enter0 119 Tryz.func10 rfl rfl (Nat.le_of_ble_eq_true rfl) ?_
  refine seq (region (cons (box (E := eConf) (.t rfl) (fun b1 => ?_))))
  refine cons (alloc z28 (fun b2 => ?_))
  refine nil (pN (seq (region (cons (alloc z28 (fun b3 => ?_))))))
  refine nil (pN (seq (region (cons (opv (Ev.fieldAddr (o := 5) (.t rfl) (by kernel_rfl)) ?_)))))
  refine cons (opv (Ev.ldx c.default ty3 (.t rfl) SConf.l_default) ?_)
  refine cons (opv (Ev.fieldAddr (o := 5) (.t rfl) (by kernel_rfl)) ?_)
  refine cons (stv ty3 SConf.l_default (.t rfl) (.t rfl) ?_)
  refine nil (pN (cut (X := OV) (fun x : OV => True) (fun x : OV => [(2, true, .pointer (some ⟨b1, 0, none⟩)), (4, true, .pointer (some ⟨b2, 0, none⟩)), (5, true, .pointer (some ⟨b3, 0, none⟩)), (1, true, I (most : Nat))]) (fun x : OV => [Var b3 eConf (⟨x, nilSl, nilSl, nilSl, nilSl, c.default⟩ : SConf) 28, OwnS x.v iE ((takeC l most).ps) 3, OwnS nilSl.v eRoute ([]) 52, OwnS nilSl.v eRule ([]) 76, OwnS nilSl.v eMeterConf ([]) 57, OwnS nilSl.v eMirrorConf ([]) 59, Var b2 eConf eConf.zero 28, Var b1 eConf c 28]) ?_ (fun x hx => ?_)))
  · refine takeNil iE 3 ?_
    refine takeNil eRoute 52 ?_
    refine takeNil eRule 76 ?_
    refine takeNil eMeterConf 57 ?_
    refine takeNil eMirrorConf 59 ?_
    refine draw [Var b2 eConf eConf.zero 28, Var b1 eConf c 28] (by kernel_rfl) ?_
    refine tk 0 rfl (Ev.fieldAddr (o := 0) (.t rfl) (by kernel_rfl)) ?_
    refine tk 2 rfl (Ev.fieldAddr (o := 0) (.t rfl) (by kernel_rfl)) ?_
    refine tk 3 rfl (Ev.ldx c.ports ty22 (.t rfl) SConf.l_ports) ?_
    refine tk 4 rfl (Ev.fieldAddr (o := 0) (.t rfl) (by kernel_rfl)) ?_
    refine tk 5 rfl (Ev.ldx c.ports ty22 (.t rfl) SConf.l_ports) ?_
    refine tk 6 rfl (Ev.len Tryz.underlying22 (.t rfl) (fun w I => (hc.keep0 I.keeps).ps)) ?_
    refine tk 7 rfl (Ev.move (.t rfl)) ?_
    refine tk 8 rfl (Ev.to (v' := I ((m0 : Nat) : Int)) (Ev.min_i (.t rfl) (.t rfl)) (by rw [hm0])) ?_
    refine tk 9 rfl (Ev.sliceH Tryz.underlying22 ty3 (.t rfl) (.t rfl) (fun w I => (hc.keep0 I.keeps).ps) (fun _ => by omega)) ?_
    refine al1 1 rfl ((opv (Ev.ldv ty22 (.t rfl) SConf.l_ports) ?_))
    refine hdn (al1 10 rfl ((app (E := iE) Tryz.underlying22 ty3 zb3 zs3 (.t rfl) (.t rfl) (fun v4 => ?_) (hsrc := (fun w I => by have h1 := ((hc.keep0 I.keeps).ps).sub (l := 0) (k := m0) (by omega) (by omega); rw [List.drop_zero, take_min _ _ _ hm0] at h1; exact h1)) (hby := ⟨by (show _ ≤ 9223372036854775807); simp; omega, by simp; omega⟩))))
    refine hdn (tk 11 rfl (Ev.fieldAddr (o := 0) (.t rfl) (by kernel_rfl)) ?_)
    refine al1 12 rfl ((stv ty22 SConf.l_ports (.t rfl) (.t rfl) ?_))
    refine hdn (ovr (pN (mtP (X := OV) (_) trivial)))
  obtain ⟨a1, rfl⟩ : ∃ y, y = x := ⟨x, rfl⟩
  show Sat _ _ [(2, true, .pointer (some ⟨b1, 0, none⟩)), (4, true, .pointer (some ⟨b2, 0, none⟩)), (5, true, .pointer (some ⟨b3, 0, none⟩)), (1, true, I (most : Nat))] [Var b3 eConf (⟨a1, nilSl, nilSl, nilSl, nilSl, c.default⟩ : SConf) 28, OwnS a1.v iE ((takeC l most).ps) 3, OwnS nilSl.v eRoute ([]) 52, OwnS nilSl.v eRule ([]) 76, OwnS nilSl.v eMeterConf ([]) 57, OwnS nilSl.v eMirrorConf ([]) 59, Var b2 eConf eConf.zero 28, Var b1 eConf c 28]
  refine cut (X := OV) (fun x : OV => True) (fun x : OV => [(2, true, .pointer (some ⟨b1, 0, none⟩)), (4, true, .pointer (some ⟨b2, 0, none⟩)), (5, true, .pointer (some ⟨b3, 0, none⟩)), (1, true, I (most : Nat))]) (fun x : OV => [Var b3 eConf (⟨a1, x, nilSl, nilSl, nilSl, c.default⟩ : SConf) 28, OwnS a1.v iE ((takeC l most).ps) 3, OwnS x.v eRoute ((takeC l most).rs) 52, OwnS nilSl.v eRule ([]) 76, OwnS nilSl.v eMeterConf ([]) 57, OwnS nilSl.v eMirrorConf ([]) 59, Var b2 eConf eConf.zero 28, Var b1 eConf c 28]) ?_ (fun x hx => ?_)
  · refine draw [Var b2 eConf eConf.zero 28, Var b1 eConf c 28] (by kernel_rfl) ?_
    refine tk 0 rfl (Ev.fieldAddr (o := 1) (.t rfl) (by kernel_rfl)) ?_
    refine tk 2 rfl (Ev.fieldAddr (o := 1) (.t rfl) (by kernel_rfl)) ?_
    refine tk 3 rfl (Ev.ldx c.routes ty23 (.t rfl) SConf.l_routes) ?_
    refine tk 4 rfl (Ev.fieldAddr (o := 1) (.t rfl) (by kernel_rfl)) ?_
    refine tk 5 rfl (Ev.ldx c.routes ty23 (.t rfl) SConf.l_routes) ?_
    refine tk 6 rfl (Ev.len Tryz.underlying23 (.t rfl) (fun w I => (hc.keep0 I.keeps).rs)) ?_
    refine tk 7 rfl (Ev.move (.t rfl)) ?_
    refine tk 8 rfl (Ev.to (v' := I ((m1 : Nat) : Int)) (Ev.min_i (.t rfl) (.t rfl)) (by rw [hm1])) ?_
    refine tk 9 rfl (Ev.sliceH Tryz.underlying23 ty52 (.t rfl) (.t rfl) (fun w I => (hc.keep0 I.keeps).rs) (fun _ => by omega)) ?_
    refine al1 1 rfl ((opv (Ev.ldv ty23 (.t rfl) SConf.l_routes) ?_))
    refine hdn (al1 10 rfl ((app (E := eRoute) Tryz.underlying23 ty52 zb52 zs52 (.t rfl) (.t rfl) (fun v5 => ?_) (hsrc := (fun w I => by have h1 := ((hc.keep0 I.keeps).rs).sub (l := 0) (k := m1) (by omega) (by omega); rw [List.drop_zero, take_min _ _ _ hm1] at h1; exact h1)) (hby := ⟨by (show _ ≤ 9223372036854775807); simp; omega, by simp; omega⟩))))
    refine hdn (tk 11 rfl (Ev.fieldAddr (o := 1) (.t rfl) (by kernel_rfl)) ?_)
    refine al1 12 rfl ((stv ty23 SConf.l_routes (.t rfl) (.t rfl) ?_))
    refine hdn (ovr (pN (mtP (X := OV) (_) trivial)))
  obtain ⟨a2, rfl⟩ : ∃ y, y = x := ⟨x, rfl⟩
  show Sat _ _ [(2, true, .pointer (some ⟨b1, 0, none⟩)), (4, true, .pointer (some ⟨b2, 0, none⟩)), (5, true, .pointer (some ⟨b3, 0, none⟩)), (1, true, I (most : Nat))] [Var b3 eConf (⟨a1, a2, nilSl, nilSl, nilSl, c.default⟩ : SConf) 28, OwnS a1.v iE ((takeC l most).ps) 3, OwnS a2.v eRoute ((takeC l most).rs) 52, OwnS nilSl.v eRule ([]) 76, OwnS nilSl.v eMeterConf ([]) 57, OwnS nilSl.v eMirrorConf ([]) 59, Var b2 eConf eConf.zero 28, Var b1 eConf c 28]
  refine cut (X := OV) (fun x : OV => True) (fun x : OV => [(2, true, .pointer (some ⟨b1, 0, none⟩)), (4, true, .pointer (some ⟨b2, 0, none⟩)), (5, true, .pointer (some ⟨b3, 0, none⟩)), (1, true, I (most : Nat))]) (fun x : OV => [Var b3 eConf (⟨a1, a2, x, nilSl, nilSl, c.default⟩ : SConf) 28, OwnS a1.v iE ((takeC l most).ps) 3, OwnS a2.v eRoute ((takeC l most).rs) 52, OwnS x.v eRule ((takeC l most).us) 76, OwnS nilSl.v eMeterConf ([]) 57, OwnS nilSl.v eMirrorConf ([]) 59, Var b2 eConf eConf.zero 28, Var b1 eConf c 28]) ?_ (fun x hx => ?_)
  · refine draw [Var b2 eConf eConf.zero 28, Var b1 eConf c 28] (by kernel_rfl) ?_
    refine tk 0 rfl (Ev.fieldAddr (o := 2) (.t rfl) (by kernel_rfl)) ?_
    refine tk 2 rfl (Ev.fieldAddr (o := 2) (.t rfl) (by kernel_rfl)) ?_
    refine tk 3 rfl (Ev.ldx c.rules ty24 (.t rfl) SConf.l_rules) ?_
    refine tk 4 rfl (Ev.fieldAddr (o := 2) (.t rfl) (by kernel_rfl)) ?_
    refine tk 5 rfl (Ev.ldx c.rules ty24 (.t rfl) SConf.l_rules) ?_
    refine tk 6 rfl (Ev.len Tryz.underlying24 (.t rfl) (fun w I => (hc.keep0 I.keeps).us)) ?_
    refine tk 7 rfl (Ev.move (.t rfl)) ?_
    refine tk 8 rfl (Ev.to (v' := I ((m2 : Nat) : Int)) (Ev.min_i (.t rfl) (.t rfl)) (by rw [hm2])) ?_
    refine tk 9 rfl (Ev.sliceH Tryz.underlying24 ty76 (.t rfl) (.t rfl) (fun w I => (hc.keep0 I.keeps).us) (fun _ => by omega)) ?_
    refine al1 1 rfl ((opv (Ev.ldv ty24 (.t rfl) SConf.l_rules) ?_))
    refine hdn (al1 10 rfl ((app (E := eRule) Tryz.underlying24 ty76 zb76 zs76 (.t rfl) (.t rfl) (fun v6 => ?_) (hsrc := (fun w I => by have h1 := ((hc.keep0 I.keeps).us).sub (l := 0) (k := m2) (by omega) (by omega); rw [List.drop_zero, take_min _ _ _ hm2] at h1; exact h1)) (hby := ⟨by (show _ ≤ 9223372036854775807); simp; omega, by simp; omega⟩))))
    refine hdn (tk 11 rfl (Ev.fieldAddr (o := 2) (.t rfl) (by kernel_rfl)) ?_)
    refine al1 12 rfl ((stv ty24 SConf.l_rules (.t rfl) (.t rfl) ?_))
    refine hdn (ovr (pN (mtP (X := OV) (_) trivial)))
  obtain ⟨a3, rfl⟩ : ∃ y, y = x := ⟨x, rfl⟩
  show Sat _ _ [(2, true, .pointer (some ⟨b1, 0, none⟩)), (4, true, .pointer (some ⟨b2, 0, none⟩)), (5, true, .pointer (some ⟨b3, 0, none⟩)), (1, true, I (most : Nat))] [Var b3 eConf (⟨a1, a2, a3, nilSl, nilSl, c.default⟩ : SConf) 28, OwnS a1.v iE ((takeC l most).ps) 3, OwnS a2.v eRoute ((takeC l most).rs) 52, OwnS a3.v eRule ((takeC l most).us) 76, OwnS nilSl.v eMeterConf ([]) 57, OwnS nilSl.v eMirrorConf ([]) 59, Var b2 eConf eConf.zero 28, Var b1 eConf c 28]
  refine cut (X := OV) (fun x : OV => True) (fun x : OV => [(2, true, .pointer (some ⟨b1, 0, none⟩)), (4, true, .pointer (some ⟨b2, 0, none⟩)), (5, true, .pointer (some ⟨b3, 0, none⟩)), (1, true, I (most : Nat))]) (fun x : OV => [Var b3 eConf (⟨a1, a2, a3, x, nilSl, c.default⟩ : SConf) 28, OwnS a1.v iE ((takeC l most).ps) 3, OwnS a2.v eRoute ((takeC l most).rs) 52, OwnS a3.v eRule ((takeC l most).us) 76, OwnS x.v eMeterConf ((takeC l most).ms) 57, OwnS nilSl.v eMirrorConf ([]) 59, Var b2 eConf eConf.zero 28, Var b1 eConf c 28]) ?_ (fun x hx => ?_)
  · refine draw [Var b2 eConf eConf.zero 28, Var b1 eConf c 28] (by kernel_rfl) ?_
    refine tk 0 rfl (Ev.fieldAddr (o := 3) (.t rfl) (by kernel_rfl)) ?_
    refine tk 2 rfl (Ev.fieldAddr (o := 3) (.t rfl) (by kernel_rfl)) ?_
    refine tk 3 rfl (Ev.ldx c.meters ty25 (.t rfl) SConf.l_meters) ?_
    refine tk 4 rfl (Ev.fieldAddr (o := 3) (.t rfl) (by kernel_rfl)) ?_
    refine tk 5 rfl (Ev.ldx c.meters ty25 (.t rfl) SConf.l_meters) ?_
    refine tk 6 rfl (Ev.len Tryz.underlying25 (.t rfl) (fun w I => (hc.keep0 I.keeps).ms)) ?_
    refine tk 7 rfl (Ev.move (.t rfl)) ?_
    refine tk 8 rfl (Ev.to (v' := I ((m3 : Nat) : Int)) (Ev.min_i (.t rfl) (.t rfl)) (by rw [hm3])) ?_
    refine tk 9 rfl (Ev.sliceH Tryz.underlying25 ty57 (.t rfl) (.t rfl) (fun w I => (hc.keep0 I.keeps).ms) (fun _ => by omega)) ?_
    refine al1 1 rfl ((opv (Ev.ldv ty25 (.t rfl) SConf.l_meters) ?_))
    refine hdn (al1 10 rfl ((app (E := eMeterConf) Tryz.underlying25 ty57 zb57 zs57 (.t rfl) (.t rfl) (fun v7 => ?_) (hsrc := (fun w I => by have h1 := ((hc.keep0 I.keeps).ms).sub (l := 0) (k := m3) (by omega) (by omega); rw [List.drop_zero, take_min _ _ _ hm3] at h1; exact h1)) (hby := ⟨by (show _ ≤ 9223372036854775807); simp; omega, by simp; omega⟩))))
    refine hdn (tk 11 rfl (Ev.fieldAddr (o := 3) (.t rfl) (by kernel_rfl)) ?_)
    refine al1 12 rfl ((stv ty25 SConf.l_meters (.t rfl) (.t rfl) ?_))
    refine hdn (ovr (pN (mtP (X := OV) (_) trivial)))
  obtain ⟨a4, rfl⟩ : ∃ y, y = x := ⟨x, rfl⟩
  show Sat _ _ [(2, true, .pointer (some ⟨b1, 0, none⟩)), (4, true, .pointer (some ⟨b2, 0, none⟩)), (5, true, .pointer (some ⟨b3, 0, none⟩)), (1, true, I (most : Nat))] [Var b3 eConf (⟨a1, a2, a3, a4, nilSl, c.default⟩ : SConf) 28, OwnS a1.v iE ((takeC l most).ps) 3, OwnS a2.v eRoute ((takeC l most).rs) 52, OwnS a3.v eRule ((takeC l most).us) 76, OwnS a4.v eMeterConf ((takeC l most).ms) 57, OwnS nilSl.v eMirrorConf ([]) 59, Var b2 eConf eConf.zero 28, Var b1 eConf c 28]
  refine cut (X := OV) (fun x : OV => True) (fun x : OV => [(2, true, .pointer (some ⟨b1, 0, none⟩)), (4, true, .pointer (some ⟨b2, 0, none⟩)), (5, true, .pointer (some ⟨b3, 0, none⟩)), (1, true, I (most : Nat))]) (fun x : OV => [Var b3 eConf (⟨a1, a2, a3, a4, x, c.default⟩ : SConf) 28, OwnS a1.v iE ((takeC l most).ps) 3, OwnS a2.v eRoute ((takeC l most).rs) 52, OwnS a3.v eRule ((takeC l most).us) 76, OwnS a4.v eMeterConf ((takeC l most).ms) 57, OwnS x.v eMirrorConf ((takeC l most).xs) 59, Var b2 eConf eConf.zero 28, Var b1 eConf c 28]) ?_ (fun x hx => ?_)
  · refine draw [Var b2 eConf eConf.zero 28, Var b1 eConf c 28] (by kernel_rfl) ?_
    refine tk 0 rfl (Ev.fieldAddr (o := 4) (.t rfl) (by kernel_rfl)) ?_
    refine tk 2 rfl (Ev.fieldAddr (o := 4) (.t rfl) (by kernel_rfl)) ?_
    refine tk 3 rfl (Ev.ldx c.mirrors ty26 (.t rfl) SConf.l_mirrors) ?_
    refine tk 4 rfl (Ev.fieldAddr (o := 4) (.t rfl) (by kernel_rfl)) ?_
    refine tk 5 rfl (Ev.ldx c.mirrors ty26 (.t rfl) SConf.l_mirrors) ?_
    refine tk 6 rfl (Ev.len Tryz.underlying26 (.t rfl) (fun w I => (hc.keep0 I.keeps).xs)) ?_
    refine tk 7 rfl (Ev.move (.t rfl)) ?_
    refine tk 8 rfl (Ev.to (v' := I ((m4 : Nat) : Int)) (Ev.min_i (.t rfl) (.t rfl)) (by rw [hm4])) ?_
    refine tk 9 rfl (Ev.sliceH Tryz.underlying26 ty59 (.t rfl) (.t rfl) (fun w I => (hc.keep0 I.keeps).xs) (fun _ => by omega)) ?_
    refine al1 1 rfl ((opv (Ev.ldv ty26 (.t rfl) SConf.l_mirrors) ?_))
    refine hdn (al1 10 rfl ((app (E := eMirrorConf) Tryz.underlying26 ty59 zb59 zs59 (.t rfl) (.t rfl) (fun v8 => ?_) (hsrc := (fun w I => by have h1 := ((hc.keep0 I.keeps).xs).sub (l := 0) (k := m4) (by omega) (by omega); rw [List.drop_zero, take_min _ _ _ hm4] at h1; exact h1)) (hby := ⟨by (show _ ≤ 9223372036854775807); simp; omega, by simp; omega⟩))))
    refine hdn (tk 11 rfl (Ev.fieldAddr (o := 4) (.t rfl) (by kernel_rfl)) ?_)
    refine al1 12 rfl ((stv ty26 SConf.l_mirrors (.t rfl) (.t rfl) ?_))
    refine hdn (ovr (pN (mtP (X := OV) (_) trivial)))
  obtain ⟨a5, rfl⟩ : ∃ y, y = x := ⟨x, rfl⟩
  show Sat _ _ [(2, true, .pointer (some ⟨b1, 0, none⟩)), (4, true, .pointer (some ⟨b2, 0, none⟩)), (5, true, .pointer (some ⟨b3, 0, none⟩)), (1, true, I (most : Nat))] [Var b3 eConf (⟨a1, a2, a3, a4, a5, c.default⟩ : SConf) 28, OwnS a1.v iE ((takeC l most).ps) 3, OwnS a2.v eRoute ((takeC l most).rs) 52, OwnS a3.v eRule ((takeC l most).us) 76, OwnS a4.v eMeterConf ((takeC l most).ms) 57, OwnS a5.v eMirrorConf ((takeC l most).xs) 59, Var b2 eConf eConf.zero 28, Var b1 eConf c 28]
  refine cut (X := OV) (fun x : OV => True) (fun x : OV => [(2, true, .pointer (some ⟨b1, 0, none⟩)), (4, true, .pointer (some ⟨b2, 0, none⟩)), (5, true, .pointer (some ⟨b3, 0, none⟩)), (1, true, I (most : Nat))]) (fun x : OV => [Var b3 eConf (⟨(OV.sub iE.size x 0 (takeC l most).ps.length), a2, a3, a4, a5, c.default⟩ : SConf) 28, OwnS x.v iE ((takeC l most).ps ++ [(777 : Int)]) 3, OwnS a2.v eRoute ((takeC l most).rs) 52, OwnS a3.v eRule ((takeC l most).us) 76, OwnS a4.v eMeterConf ((takeC l most).ms) 57, OwnS a5.v eMirrorConf ((takeC l most).xs) 59, Var b2 eConf eConf.zero 28, Var b1 eConf c 28]) ?_ (fun x hx => ?_)
  · refine know (fun w I => (isSl_own (E := iE) (v := a1.v) (xs := (takeC l most).ps) (T := 3) (by repeat first | exact mH | apply mT | apply mA) w I).shq) (fun hq0 => ?_)
    refine draw [Var b2 eConf eConf.zero 28, Var b1 eConf c 28] (by kernel_rfl) ?_
    refine tk 0 rfl (Ev.fieldAddr (o := 0) (.t rfl) (by kernel_rfl)) ?_
    refine tk 4 rfl (Ev.fieldAddr (o := 0) (.t rfl) (by kernel_rfl)) ?_
    refine all [1, 2, 5] (by kernel_rfl) (by decide) (.cons rfl ?_ (.cons rfl ?_ (.cons rfl ?_ .nil)))
    · refine (opv (Ev.ldv ty22 (.t rfl) SConf.l_ports) ?_)
      refine hdn (all [2, 5] (by kernel_rfl) (by decide) (.cons rfl ?_ (.cons rfl ?_ .nil)))
      · refine (buildSlice (E := iE) Tryz.underlying22 ty3 z3 (.cons (.c (v := I 777) rfl) .nil) rfl rfl (fun v9 => ?_))
        refine hdn (all [3, 5] (by kernel_rfl) (by decide) (.cons rfl ?_ (.cons rfl ?_ .nil)))
        · refine (app (E := iE) Tryz.underlying22 ty3 zb3 zs3 (.t rfl) (.t rfl) (fun v10 => ?_) (hby := ⟨by (show _ ≤ 9223372036854775807); simp only [List.length_cons, List.length_nil]; omega, by simp only [List.length_cons, List.length_nil]; omega⟩))
          refine hdn (al1 5 rfl ((opv (Ev.ldv ty22 (.t rfl) SConf.l_ports) ?_)))
          refine hdn (tk 6 rfl (Ev.lenQ Tryz.underlying22 (.t rfl) hq0) ?_)
          refine know (fun w I => (isSl_own (E := iE) (xs := (takeC l most).ps ++ [(777 : Int)]) (T := 3) (by repeat first | exact mH | apply mT | apply mA) w I).shq) (fun hz0 => ?_)
          refine tk 7 rfl (Ev.to (v' := (OV.sub iE.size _ 0 (takeC l most).ps.length).v) (Ev.sliceHS Tryz.underlying22 ty3 (.t rfl) (.t rfl) hz0 (fun _ => by simp only [List.length_append, List.length_cons, List.length_nil]; omega)) (rfl)) ?_
          refine tk 8 rfl (Ev.fieldAddr (o := 0) (.t rfl) (by kernel_rfl)) ?_
          refine al1 9 rfl ((stv ty22 SConf.l_ports (.t rfl) (.t rfl) ?_))
          refine hdn (ovr (pN (mtP (X := OV) (_) trivial)))
        · refine (opv (Ev.ldv ty22 (.t rfl) SConf.l_ports) ?_)
          refine hdn (tk 6 rfl (Ev.lenQ Tryz.underlying22 (.t rfl) hq0) ?_)
          refine al1 3 rfl ((app (E := iE) Tryz.underlying22 ty3 zb3 zs3 (.t rfl) (.t rfl) (fun v11 => ?_) (hby := ⟨by (show _ ≤ 9223372036854775807); simp only [List.length_cons, List.length_nil]; omega, by simp only [List.length_cons, List.length_nil]; omega⟩)))
          refine hdn (know (fun w I => (isSl_own (E := iE) (xs := (takeC l most).ps ++ [(777 : Int)]) (T := 3) (by repeat first | exact mH | apply mT | apply mA) w I).shq) (fun hz0 => ?_))
          refine tk 7 rfl (Ev.to (v' := (OV.sub iE.size _ 0 (takeC l most).ps.length).v) (Ev.sliceHS Tryz.underlying22 ty3 (.t rfl) (.t rfl) hz0 (fun _ => by simp only [List.length_append, List.length_cons, List.length_nil]; omega)) (rfl)) ?_
          refine tk 8 rfl (Ev.fieldAddr (o := 0) (.t rfl) (by kernel_rfl)) ?_
          refine al1 9 rfl ((stv ty22 SConf.l_ports (.t rfl) (.t rfl) ?_))
          refine hdn (ovr (pN (mtP (X := OV) (_) trivial)))
      · refine (opv (Ev.ldv ty22 (.t rfl) SConf.l_ports) ?_)
        refine hdn (tk 6 rfl (Ev.lenQ Tryz.underlying22 (.t rfl) hq0) ?_)
        refine al1 2 rfl ((buildSlice (E := iE) Tryz.underlying22 ty3 z3 (.cons (.c (v := I 777) rfl) .nil) rfl rfl (fun v12 => ?_)))
        refine hdn (al1 3 rfl ((app (E := iE) Tryz.underlying22 ty3 zb3 zs3 (.t rfl) (.t rfl) (fun v13 => ?_) (hby := ⟨by (show _ ≤ 9223372036854775807); simp only [List.length_cons, List.length_nil]; omega, by simp only [List.length_cons, List.length_nil]; omega⟩))))
        refine hdn (know (fun w I => (isSl_own (E := iE) (xs := (takeC l most).ps ++ [(777 : Int)]) (T := 3) (by repeat first | exact mH | apply mT | apply mA) w I).shq) (fun hz0 => ?_))
        refine tk 7 rfl (Ev.to (v' := (OV.sub iE.size _ 0 (takeC l most).ps.length).v) (Ev.sliceHS Tryz.underlying22 ty3 (.t rfl) (.t rfl) hz0 (fun _ => by simp only [List.length_append, List.length_cons, List.length_nil]; omega)) (rfl)) ?_
        refine tk 8 rfl (Ev.fieldAddr (o := 0) (.t rfl) (by kernel_rfl)) ?_
        refine al1 9 rfl ((stv ty22 SConf.l_ports (.t rfl) (.t rfl) ?_))
        refine hdn (ovr (pN (mtP (X := OV) (_) trivial)))
    · refine (buildSlice (E := iE) Tryz.underlying22 ty3 z3 (.cons (.c (v := I 777) rfl) .nil) rfl rfl (fun v14 => ?_))
      refine hdn (all [1, 5] (by kernel_rfl) (by decide) (.cons rfl ?_ (.cons rfl ?_ .nil)))
      · refine (opv (Ev.ldv ty22 (.t rfl) SConf.l_ports) ?_)
        refine hdn (all [3, 5] (by kernel_rfl) (by decide) (.cons rfl ?_ (.cons rfl ?_ .nil)))
        · refine (app (E := iE) Tryz.underlying22 ty3 zb3 zs3 (.t rfl) (.t rfl) (fun v15 => ?_) (hby := ⟨by (show _ ≤ 9223372036854775807); simp only [List.length_cons, List.length_nil]; omega, by simp only [List.length_cons, List.length_nil]; omega⟩))
          refine hdn (al1 5 rfl ((opv (Ev.ldv ty22 (.t rfl) SConf.l_ports) ?_)))
          refine hdn (tk 6 rfl (Ev.lenQ Tryz.underlying22 (.t rfl) hq0) ?_)
          refine know (fun w I => (isSl_own (E := iE) (xs := (takeC l most).ps ++ [(777 : Int)]) (T := 3) (by repeat first | exact mH | apply mT | apply mA) w I).shq) (fun hz0 => ?_)
          refine tk 7 rfl (Ev.to (v' := (OV.sub iE.size _ 0 (takeC l most).ps.length).v) (Ev.sliceHS Tryz.underlying22 ty3 (.t rfl) (.t rfl) hz0 (fun _ => by simp only [List.length_append, List.length_cons, List.length_nil]; omega)) (rfl)) ?_
          refine tk 8 rfl (Ev.fieldAddr (o := 0) (.t rfl) (by kernel_rfl)) ?_
          refine al1 9 rfl ((stv ty22 SConf.l_ports (.t rfl) (.t rfl) ?_))
          refine hdn (ovr (pN (mtP (X := OV) (_) trivial)))
        · refine (opv (Ev.ldv ty22 (.t rfl) SConf.l_ports) ?_)
          refine hdn (tk 6 rfl (Ev.lenQ Tryz.underlying22 (.t rfl) hq0) ?_)
          refine al1 3 rfl ((app (E := iE) Tryz.underlying22 ty3 zb3 zs3 (.t rfl) (.t rfl) (fun v16 => ?_) (hby := ⟨by (show _ ≤ 9223372036854775807); simp only [List.length_cons, List.length_nil]; omega, by simp only [List.length_cons, List.length_nil]; omega⟩)))
          refine hdn (know (fun w I => (isSl_own (E := iE) (xs := (takeC l most).ps ++ [(777 : Int)]) (T := 3) (by repeat first | exact mH | apply mT | apply mA) w I).shq) (fun hz0 => ?_))
          refine tk 7 rfl (Ev.to (v' := (OV.sub iE.size _ 0 (takeC l most).ps.length).v) (Ev.sliceHS Tryz.underlying22 ty3 (.t rfl) (.t rfl) hz0 (fun _ => by simp only [List.length_append, List.length_cons, List.length_nil]; omega)) (rfl)) ?_
          refine tk 8 rfl (Ev.fieldAddr (o := 0) (.t rfl) (by kernel_rfl)) ?_
          refine al1 9 rfl ((stv ty22 SConf.l_ports (.t rfl) (.t rfl) ?_))
          refine hdn (ovr (pN (mtP (X := OV) (_) trivial)))
      · refine (opv (Ev.ldv ty22 (.t rfl) SConf.l_ports) ?_)
        refine hdn (tk 6 rfl (Ev.lenQ Tryz.underlying22 (.t rfl) hq0) ?_)
        refine al1 1 rfl ((opv (Ev.ldv ty22 (.t rfl) SConf.l_ports) ?_))
        refine hdn (al1 3 rfl ((app (E := iE) Tryz.underlying22 ty3 zb3 zs3 (.t rfl) (.t rfl) (fun v17 => ?_) (hby := ⟨by (show _ ≤ 9223372036854775807); simp only [List.length_cons, List.length_nil]; omega, by simp only [List.length_cons, List.length_nil]; omega⟩))))
        refine hdn (know (fun w I => (isSl_own (E := iE) (xs := (takeC l most).ps ++ [(777 : Int)]) (T := 3) (by repeat first | exact mH | apply mT | apply mA) w I).shq) (fun hz0 => ?_))
        refine tk 7 rfl (Ev.to (v' := (OV.sub iE.size _ 0 (takeC l most).ps.length).v) (Ev.sliceHS Tryz.underlying22 ty3 (.t rfl) (.t rfl) hz0 (fun _ => by simp only [List.length_append, List.length_cons, List.length_nil]; omega)) (rfl)) ?_
        refine tk 8 rfl (Ev.fieldAddr (o := 0) (.t rfl) (by kernel_rfl)) ?_
        refine al1 9 rfl ((stv ty22 SConf.l_ports (.t rfl) (.t rfl) ?_))
        refine hdn (ovr (pN (mtP (X := OV) (_) trivial)))
    · refine (opv (Ev.ldv ty22 (.t rfl) SConf.l_ports) ?_)
      refine hdn (tk 6 rfl (Ev.lenQ Tryz.underlying22 (.t rfl) hq0) ?_)
      refine all [1, 2] (by kernel_rfl) (by decide) (.cons rfl ?_ (.cons rfl ?_ .nil))
      · refine (opv (Ev.ldv ty22 (.t rfl) SConf.l_ports) ?_)
        refine hdn (al1 2 rfl ((buildSlice (E := iE) Tryz.underlying22 ty3 z3 (.cons (.c (v := I 777) rfl) .nil) rfl rfl (fun v18 => ?_))))
        refine hdn (al1 3 rfl ((app (E := iE) Tryz.underlying22 ty3 zb3 zs3 (.t rfl) (.t rfl) (fun v19 => ?_) (hby := ⟨by (show _ ≤ 9223372036854775807); simp only [List.length_cons, List.length_nil]; omega, by simp only [List.length_cons, List.length_nil]; omega⟩))))
        refine hdn (know (fun w I => (isSl_own (E := iE) (xs := (takeC l most).ps ++ [(777 : Int)]) (T := 3) (by repeat first | exact mH | apply mT | apply mA) w I).shq) (fun hz0 => ?_))
        refine tk 7 rfl (Ev.to (v' := (OV.sub iE.size _ 0 (takeC l most).ps.length).v) (Ev.sliceHS Tryz.underlying22 ty3 (.t rfl) (.t rfl) hz0 (fun _ => by simp only [List.length_append, List.length_cons, List.length_nil]; omega)) (rfl)) ?_
        refine tk 8 rfl (Ev.fieldAddr (o := 0) (.t rfl) (by kernel_rfl)) ?_
        refine al1 9 rfl ((stv ty22 SConf.l_ports (.t rfl) (.t rfl) ?_))
        refine hdn (ovr (pN (mtP (X := OV) (_) trivial)))
      · refine (buildSlice (E := iE) Tryz.underlying22 ty3 z3 (.cons (.c (v := I 777) rfl) .nil) rfl rfl (fun v20 => ?_))
        refine hdn (al1 1 rfl ((opv (Ev.ldv ty22 (.t rfl) SConf.l_ports) ?_)))
        refine hdn (al1 3 rfl ((app (E := iE) Tryz.underlying22 ty3 zb3 zs3 (.t rfl) (.t rfl) (fun v21 => ?_) (hby := ⟨by (show _ ≤ 9223372036854775807); simp only [List.length_cons, List.length_nil]; omega, by simp only [List.length_cons, List.length_nil]; omega⟩))))
        refine hdn (know (fun w I => (isSl_own (E := iE) (xs := (takeC l most).ps ++ [(777 : Int)]) (T := 3) (by repeat first | exact mH | apply mT | apply mA) w I).shq) (fun hz0 => ?_))
        refine tk 7 rfl (Ev.to (v' := (OV.sub iE.size _ 0 (takeC l most).ps.length).v) (Ev.sliceHS Tryz.underlying22 ty3 (.t rfl) (.t rfl) hz0 (fun _ => by simp only [List.length_append, List.length_cons, List.length_nil]; omega)) (rfl)) ?_
        refine tk 8 rfl (Ev.fieldAddr (o := 0) (.t rfl) (by kernel_rfl)) ?_
        refine al1 9 rfl ((stv ty22 SConf.l_ports (.t rfl) (.t rfl) ?_))
        refine hdn (ovr (pN (mtP (X := OV) (_) trivial)))
  obtain ⟨z1, rfl⟩ : ∃ y, y = x := ⟨x, rfl⟩
  show Sat _ _ [(2, true, .pointer (some ⟨b1, 0, none⟩)), (4, true, .pointer (some ⟨b2, 0, none⟩)), (5, true, .pointer (some ⟨b3, 0, none⟩)), (1, true, I (most : Nat))] [Var b3 eConf (⟨(OV.sub iE.size z1 0 (takeC l most).ps.length), a2, a3, a4, a5, c.default⟩ : SConf) 28, OwnS z1.v iE ((takeC l most).ps ++ [(777 : Int)]) 3, OwnS a2.v eRoute ((takeC l most).rs) 52, OwnS a3.v eRule ((takeC l most).us) 76, OwnS a4.v eMeterConf ((takeC l most).ms) 57, OwnS a5.v eMirrorConf ((takeC l most).xs) 59, Var b2 eConf eConf.zero 28, Var b1 eConf c 28]
  refine cut (X := OV) (fun x : OV => True) (fun x : OV => [(2, true, .pointer (some ⟨b1, 0, none⟩)), (4, true, .pointer (some ⟨b2, 0, none⟩)), (5, true, .pointer (some ⟨b3, 0, none⟩)), (1, true, I (most : Nat))]) (fun x : OV => [Var b3 eConf (⟨(OV.sub iE.size z1 0 (takeC l most).ps.length), (OV.sub eRoute.size x 0 (takeC l most).rs.length), a3, a4, a5, c.default⟩ : SConf) 28, OwnS z1.v iE ((takeC l most).ps ++ [(777 : Int)]) 3, OwnS x.v eRoute ((takeC l most).rs ++ [mkRo]) 52, OwnS a3.v eRule ((takeC l most).us) 76, OwnS a4.v eMeterConf ((takeC l most).ms) 57, OwnS a5.v eMirrorConf ((takeC l most).xs) 59, Var b2 eConf eConf.zero 28, Var b1 eConf c 28]) ?_ (fun x hx => ?_)
  · refine know (fun w I => (isSl_own (E := eRoute) (v := a2.v) (xs := (takeC l most).rs) (T := 52) (by repeat first | exact mH | apply mT | apply mA) w I).shq) (fun hq1 => ?_)
    refine draw [Var b2 eConf eConf.zero 28, Var b1 eConf c 28] (by kernel_rfl) ?_
    refine tk 0 rfl (Ev.fieldAddr (o := 1) (.t rfl) (by kernel_rfl)) ?_
    refine tk 2 rfl (Ev.buildS (fs := _) (places := [(0, 18), (18, 1)]) z52 rfl Tryz.underlying52 (by kernel_rfl) (.cons (.c (v := I 777) rfl) .nil) (Fills.cons SRoute.l_out rfl Fills.nil)) ?_
    refine tk 5 rfl (Ev.fieldAddr (o := 1) (.t rfl) (by kernel_rfl)) ?_
    refine all [1, 3, 6] (by kernel_rfl) (by decide) (.cons rfl ?_ (.cons rfl ?_ (.cons rfl ?_ .nil)))
    · refine (opv (Ev.ldv ty23 (.t rfl) SConf.l_routes) ?_)
      refine hdn (all [3, 6] (by kernel_rfl) (by decide) (.cons rfl ?_ (.cons rfl ?_ .nil)))
      · refine (buildSlice (E := eRoute) Tryz.underlying23 ty52 z52 (.cons (.t rfl) .nil) rfl rfl (fun v22 => ?_))
        refine hdn (all [4, 6] (by kernel_rfl) (by decide) (.cons rfl ?_ (.cons rfl ?_ .nil)))
        · refine (app (E := eRoute) Tryz.underlying23 ty52 zb52 zs52 (.t rfl) (.t rfl) (fun v23 => ?_) (hby := ⟨by (show _ ≤ 9223372036854775807); simp only [List.length_cons, List.length_nil]; omega, by simp only [List.length_cons, List.length_nil]; omega⟩))
          refine hdn (al1 6 rfl ((opv (Ev.ldv ty23 (.t rfl) SConf.l_routes) ?_)))
          refine hdn (tk 7 rfl (Ev.lenQ Tryz.underlying23 (.t rfl) hq1) ?_)
          refine know (fun w I => (isSl_own (E := eRoute) (xs := (takeC l most).rs ++ [mkRo]) (T := 52) (by repeat first | exact mH | apply mT | apply mA) w I).shq) (fun hz1 => ?_)
          refine tk 8 rfl (Ev.to (v' := (OV.sub eRoute.size _ 0 (takeC l most).rs.length).v) (Ev.sliceHS Tryz.underlying23 ty52 (.t rfl) (.t rfl) hz1 (fun _ => by simp only [List.length_append, List.length_cons, List.length_nil]; omega)) (rfl)) ?_
          refine tk 9 rfl (Ev.fieldAddr (o := 1) (.t rfl) (by kernel_rfl)) ?_
          refine al1 10 rfl ((stv ty23 SConf.l_routes (.t rfl) (.t rfl) ?_))
          refine hdn (ovr (pN (mtP (X := OV) (_) trivial)))
        · refine (opv (Ev.ldv ty23 (.t rfl) SConf.l_routes) ?_)
          refine hdn (tk 7 rfl (Ev.lenQ Tryz.underlying23 (.t rfl) hq1) ?_)
          refine al1 4 rfl ((app (E := eRoute) Tryz.underlying23 ty52 zb52 zs52 (.t rfl) (.t rfl) (fun v24 => ?_) (hby := ⟨by (show _ ≤ 9223372036854775807); simp only [List.length_cons, List.length_nil]; omega, by simp only [List.length_cons, List.length_nil]; omega⟩)))
          refine hdn (know (fun w I => (isSl_own (E := eRoute) (xs := (takeC l most).rs ++ [mkRo]) (T := 52) (by repeat first | exact mH | apply mT | apply mA) w I).shq) (fun hz1 => ?_))
          refine tk 8 rfl (Ev.to (v' := (OV.sub eRoute.size _ 0 (takeC l most).rs.length).v) (Ev.sliceHS Tryz.underlying23 ty52 (.t rfl) (.t rfl) hz1 (fun _ => by simp only [List.length_append, List.length_cons, List.length_nil]; omega)) (rfl)) ?_
          refine tk 9 rfl (Ev.fieldAddr (o := 1) (.t rfl) (by kernel_rfl)) ?_
          refine al1 10 rfl ((stv ty23 SConf.l_routes (.t rfl) (.t rfl) ?_))
          refine hdn (ovr (pN (mtP (X := OV) (_) trivial)))
      · refine (opv (Ev.ldv ty23 (.t rfl) SConf.l_routes) ?_)
        refine hdn (tk 7 rfl (Ev.lenQ Tryz.underlying23 (.t rfl) hq1) ?_)
        refine al1 3 rfl ((buildSlice (E := eRoute) Tryz.underlying23 ty52 z52 (.cons (.t rfl) .nil) rfl rfl (fun v25 => ?_)))
        refine hdn (al1 4 rfl ((app (E := eRoute) Tryz.underlying23 ty52 zb52 zs52 (.t rfl) (.t rfl) (fun v26 => ?_) (hby := ⟨by (show _ ≤ 9223372036854775807); simp only [List.length_cons, List.length_nil]; omega, by simp only [List.length_cons, List.length_nil]; omega⟩))))
        refine hdn (know (fun w I => (isSl_own (E := eRoute) (xs := (takeC l most).rs ++ [mkRo]) (T := 52) (by repeat first | exact mH | apply mT | apply mA) w I).shq) (fun hz1 => ?_))
        refine tk 8 rfl (Ev.to (v' := (OV.sub eRoute.size _ 0 (takeC l most).rs.length).v) (Ev.sliceHS Tryz.underlying23 ty52 (.t rfl) (.t rfl) hz1 (fun _ => by simp only [List.length_append, List.length_cons, List.length_nil]; omega)) (rfl)) ?_
        refine tk 9 rfl (Ev.fieldAddr (o := 1) (.t rfl) (by kernel_rfl)) ?_
        refine al1 10 rfl ((stv ty23 SConf.l_routes (.t rfl) (.t rfl) ?_))
        refine hdn (ovr (pN (mtP (X := OV) (_) trivial)))
    · refine (buildSlice (E := eRoute) Tryz.underlying23 ty52 z52 (.cons (.t rfl) .nil) rfl rfl (fun v27 => ?_))
      refine hdn (all [1, 6] (by kernel_rfl) (by decide) (.cons rfl ?_ (.cons rfl ?_ .nil)))
      · refine (opv (Ev.ldv ty23 (.t rfl) SConf.l_routes) ?_)
        refine hdn (all [4, 6] (by kernel_rfl) (by decide) (.cons rfl ?_ (.cons rfl ?_ .nil)))
        · refine (app (E := eRoute) Tryz.underlying23 ty52 zb52 zs52 (.t rfl) (.t rfl) (fun v28 => ?_) (hby := ⟨by (show _ ≤ 9223372036854775807); simp only [List.length_cons, List.length_nil]; omega, by simp only [List.length_cons, List.length_nil]; omega⟩))
          refine hdn (al1 6 rfl ((opv (Ev.ldv ty23 (.t rfl) SConf.l_routes) ?_)))
          refine hdn (tk 7 rfl (Ev.lenQ Tryz.underlying23 (.t rfl) hq1) ?_)
          refine know (fun w I => (isSl_own (E := eRoute) (xs := (takeC l most).rs ++ [mkRo]) (T := 52) (by repeat first | exact mH | apply mT | apply mA) w I).shq) (fun hz1 => ?_)
          refine tk 8 rfl (Ev.to (v' := (OV.sub eRoute.size _ 0 (takeC l most).rs.length).v) (Ev.sliceHS Tryz.underlying23 ty52 (.t rfl) (.t rfl) hz1 (fun _ => by simp only [List.length_append, List.length_cons, List.length_nil]; omega)) (rfl)) ?_
          refine tk 9 rfl (Ev.fieldAddr (o := 1) (.t rfl) (by kernel_rfl)) ?_
          refine al1 10 rfl ((stv ty23 SConf.l_routes (.t rfl) (.t rfl) ?_))
          refine hdn (ovr (pN (mtP (X := OV) (_) trivial)))
        · refine (opv (Ev.ldv ty23 (.t rfl) SConf.l_routes) ?_)
          refine hdn (tk 7 rfl (Ev.lenQ Tryz.underlying23 (.t rfl) hq1) ?_)
          refine al1 4 rfl ((app (E := eRoute) Tryz.underlying23 ty52 zb52 zs52 (.t rfl) (.t rfl) (fun v29 => ?_) (hby := ⟨by (show _ ≤ 9223372036854775807); simp only [List.length_cons, List.length_nil]; omega, by simp only [List.length_cons, List.length_nil]; omega⟩)))
          refine hdn (know (fun w I => (isSl_own (E := eRoute) (xs := (takeC l most).rs ++ [mkRo]) (T := 52) (by repeat first | exact mH | apply mT | apply mA) w I).shq) (fun hz1 => ?_))
          refine tk 8 rfl (Ev.to (v' := (OV.sub eRoute.size _ 0 (takeC l most).rs.length).v) (Ev.sliceHS Tryz.underlying23 ty52 (.t rfl) (.t rfl) hz1 (fun _ => by simp only [List.length_append, List.length_cons, List.length_nil]; omega)) (rfl)) ?_
          refine tk 9 rfl (Ev.fieldAddr (o := 1) (.t rfl) (by kernel_rfl)) ?_
          refine al1 10 rfl ((stv ty23 SConf.l_routes (.t rfl) (.t rfl) ?_))
          refine hdn (ovr (pN (mtP (X := OV) (_) trivial)))
      · refine (opv (Ev.ldv ty23 (.t rfl) SConf.l_routes) ?_)
        refine hdn (tk 7 rfl (Ev.lenQ Tryz.underlying23 (.t rfl) hq1) ?_)
        refine al1 1 rfl ((opv (Ev.ldv ty23 (.t rfl) SConf.l_routes) ?_))
        refine hdn (al1 4 rfl ((app (E := eRoute) Tryz.underlying23 ty52 zb52 zs52 (.t rfl) (.t rfl) (fun v30 => ?_) (hby := ⟨by (show _ ≤ 9223372036854775807); simp only [List.length_cons, List.length_nil]; omega, by simp only [List.length_cons, List.length_nil]; omega⟩))))
        refine hdn (know (fun w I => (isSl_own (E := eRoute) (xs := (takeC l most).rs ++ [mkRo]) (T := 52) (by repeat first | exact mH | apply mT | apply mA) w I).shq) (fun hz1 => ?_))
        refine tk 8 rfl (Ev.to (v' := (OV.sub eRoute.size _ 0 (takeC l most).rs.length).v) (Ev.sliceHS Tryz.underlying23 ty52 (.t rfl) (.t rfl) hz1 (fun _ => by simp only [List.length_append, List.length_cons, List.length_nil]; omega)) (rfl)) ?_
        refine tk 9 rfl (Ev.fieldAddr (o := 1) (.t rfl) (by kernel_rfl)) ?_
        refine al1 10 rfl ((stv ty23 SConf.l_routes (.t rfl) (.t rfl) ?_))
        refine hdn (ovr (pN (mtP (X := OV) (_) trivial)))
    · refine (opv (Ev.ldv ty23 (.t rfl) SConf.l_routes) ?_)
      refine hdn (tk 7 rfl (Ev.lenQ Tryz.underlying23 (.t rfl) hq1) ?_)
      refine all [1, 3] (by kernel_rfl) (by decide) (.cons rfl ?_ (.cons rfl ?_ .nil))
      · refine (opv (Ev.ldv ty23 (.t rfl) SConf.l_routes) ?_)
        refine hdn (al1 3 rfl ((buildSlice (E := eRoute) Tryz.underlying23 ty52 z52 (.cons (.t rfl) .nil) rfl rfl (fun v31 => ?_))))
        refine hdn (al1 4 rfl ((app (E := eRoute) Tryz.underlying23 ty52 zb52 zs52 (.t rfl) (.t rfl) (fun v32 => ?_) (hby := ⟨by (show _ ≤ 9223372036854775807); simp only [List.length_cons, List.length_nil]; omega, by simp only [List.length_cons, List.length_nil]; omega⟩))))
        refine hdn (know (fun w I => (isSl_own (E := eRoute) (xs := (takeC l most).rs ++ [mkRo]) (T := 52) (by repeat first | exact mH | apply mT | apply mA) w I).shq) (fun hz1 => ?_))
        refine tk 8 rfl (Ev.to (v' := (OV.sub eRoute.size _ 0 (takeC l most).rs.length).v) (Ev.sliceHS Tryz.underlying23 ty52 (.t rfl) (.t rfl) hz1 (fun _ => by simp only [List.length_append, List.length_cons, List.length_nil]; omega)) (rfl)) ?_
        refine tk 9 rfl (Ev.fieldAddr (o := 1) (.t rfl) (by kernel_rfl)) ?_
        refine al1 10 rfl ((stv ty23 SConf.l_routes (.t rfl) (.t rfl) ?_))
        refine hdn (ovr (pN (mtP (X := OV) (_) trivial)))
      · refine (buildSlice (E := eRoute) Tryz.underlying23 ty52 z52 (.cons (.t rfl) .nil) rfl rfl (fun v33 => ?_))
        refine hdn (al1 1 rfl ((opv (Ev.ldv ty23 (.t rfl) SConf.l_routes) ?_)))
        refine hdn (al1 4 rfl ((app (E := eRoute) Tryz.underlying23 ty52 zb52 zs52 (.t rfl) (.t rfl) (fun v34 => ?_) (hby := ⟨by (show _ ≤ 9223372036854775807); simp only [List.length_cons, List.length_nil]; omega, by simp only [List.length_cons, List.length_nil]; omega⟩))))
        refine hdn (know (fun w I => (isSl_own (E := eRoute) (xs := (takeC l most).rs ++ [mkRo]) (T := 52) (by repeat first | exact mH | apply mT | apply mA) w I).shq) (fun hz1 => ?_))
        refine tk 8 rfl (Ev.to (v' := (OV.sub eRoute.size _ 0 (takeC l most).rs.length).v) (Ev.sliceHS Tryz.underlying23 ty52 (.t rfl) (.t rfl) hz1 (fun _ => by simp only [List.length_append, List.length_cons, List.length_nil]; omega)) (rfl)) ?_
        refine tk 9 rfl (Ev.fieldAddr (o := 1) (.t rfl) (by kernel_rfl)) ?_
        refine al1 10 rfl ((stv ty23 SConf.l_routes (.t rfl) (.t rfl) ?_))
        refine hdn (ovr (pN (mtP (X := OV) (_) trivial)))
  obtain ⟨z2, rfl⟩ : ∃ y, y = x := ⟨x, rfl⟩
  show Sat _ _ [(2, true, .pointer (some ⟨b1, 0, none⟩)), (4, true, .pointer (some ⟨b2, 0, none⟩)), (5, true, .pointer (some ⟨b3, 0, none⟩)), (1, true, I (most : Nat))] [Var b3 eConf (⟨(OV.sub iE.size z1 0 (takeC l most).ps.length), (OV.sub eRoute.size z2 0 (takeC l most).rs.length), a3, a4, a5, c.default⟩ : SConf) 28, OwnS z1.v iE ((takeC l most).ps ++ [(777 : Int)]) 3, OwnS z2.v eRoute ((takeC l most).rs ++ [mkRo]) 52, OwnS a3.v eRule ((takeC l most).us) 76, OwnS a4.v eMeterConf ((takeC l most).ms) 57, OwnS a5.v eMirrorConf ((takeC l most).xs) 59, Var b2 eConf eConf.zero 28, Var b1 eConf c 28]
  refine cut (X := OV) (fun x : OV => True) (fun x : OV => [(2, true, .pointer (some ⟨b1, 0, none⟩)), (4, true, .pointer (some ⟨b2, 0, none⟩)), (5, true, .pointer (some ⟨b3, 0, none⟩)), (1, true, I (most : Nat))]) (fun x : OV => [Var b3 eConf (⟨(OV.sub iE.size z1 0 (takeC l most).ps.length), (OV.sub eRoute.size z2 0 (takeC l most).rs.length), (OV.sub eRule.size x 0 (takeC l most).us.length), a4, a5, c.default⟩ : SConf) 28, OwnS z1.v iE ((takeC l most).ps ++ [(777 : Int)]) 3, OwnS z2.v eRoute ((takeC l most).rs ++ [mkRo]) 52, OwnS x.v eRule ((takeC l most).us ++ [mkRu]) 76, OwnS a4.v eMeterConf ((takeC l most).ms) 57, OwnS a5.v eMirrorConf ((takeC l most).xs) 59, Var b2 eConf eConf.zero 28, Var b1 eConf c 28]) ?_ (fun x hx => ?_)
  · refine know (fun w I => (isSl_own (E := eRule) (v := a3.v) (xs := (takeC l most).us) (T := 76) (by repeat first | exact mH | apply mT | apply mA) w I).shq) (fun hq2 => ?_)
    refine draw [Var b2 eConf eConf.zero 28, Var b1 eConf c 28] (by kernel_rfl) ?_
    refine tk 0 rfl (Ev.fieldAddr (o := 2) (.t rfl) (by kernel_rfl)) ?_
    refine tk 2 rfl (Ev.buildS (fs := _) (places := [(0, 1), (1, 44), (45, 1), (46, 1), (47, 1), (48, 1)]) z76 rfl Tryz.underlying76 (by kernel_rfl) (.cons (.c (v := I 777) rfl) .nil) (Fills.cons SRule.l_out rfl Fills.nil)) ?_
    refine tk 5 rfl (Ev.fieldAddr (o := 2) (.t rfl) (by kernel_rfl)) ?_
    refine all [1, 3, 6] (by kernel_rfl) (by decide) (.cons rfl ?_ (.cons rfl ?_ (.cons rfl ?_ .nil)))
    · refine (opv (Ev.ldv ty24 (.t rfl) SConf.l_rules) ?_)
      refine hdn (all [3, 6] (by kernel_rfl) (by decide) (.cons rfl ?_ (.cons rfl ?_ .nil)))
      · refine (buildSlice (E := eRule) Tryz.underlying24 ty76 z76 (.cons (.t rfl) .nil) rfl rfl (fun v35 => ?_))
        refine hdn (all [4, 6] (by kernel_rfl) (by decide) (.cons rfl ?_ (.cons rfl ?_ .nil)))
        · refine (app (E := eRule) Tryz.underlying24 ty76 zb76 zs76 (.t rfl) (.t rfl) (fun v36 => ?_) (hby := ⟨by (show _ ≤ 9223372036854775807); simp only [List.length_cons, List.length_nil]; omega, by simp only [List.length_cons, List.length_nil]; omega⟩))
          refine hdn (al1 6 rfl ((opv (Ev.ldv ty24 (.t rfl) SConf.l_rules) ?_)))
          refine hdn (tk 7 rfl (Ev.lenQ Tryz.underlying24 (.t rfl) hq2) ?_)
          refine know (fun w I => (isSl_own (E := eRule) (xs := (takeC l most).us ++ [mkRu]) (T := 76) (by repeat first | exact mH | apply mT | apply mA) w I).shq) (fun hz2 => ?_)
          refine tk 8 rfl (Ev.to (v' := (OV.sub eRule.size _ 0 (takeC l most).us.length).v) (Ev.sliceHS Tryz.underlying24 ty76 (.t rfl) (.t rfl) hz2 (fun _ => by simp only [List.length_append, List.length_cons, List.length_nil]; omega)) (rfl)) ?_
          refine tk 9 rfl (Ev.fieldAddr (o := 2) (.t rfl) (by kernel_rfl)) ?_
          refine al1 10 rfl ((stv ty24 SConf.l_rules (.t rfl) (.t rfl) ?_))
          refine hdn (ovr (pN (mtP (X := OV) (_) trivial)))
        · refine (opv (Ev.ldv ty24 (.t rfl) SConf.l_rules) ?_)
          refine hdn (tk 7 rfl (Ev.lenQ Tryz.underlying24 (.t rfl) hq2) ?_)
          refine al1 4 rfl ((app (E := eRule) Tryz.underlying24 ty76 zb76 zs76 (.t rfl) (.t rfl) (fun v37 => ?_) (hby := ⟨by (show _ ≤ 9223372036854775807); simp only [List.length_cons, List.length_nil]; omega, by simp only [List.length_cons, List.length_nil]; omega⟩)))
          refine hdn (know (fun w I => (isSl_own (E := eRule) (xs := (takeC l most).us ++ [mkRu]) (T := 76) (by repeat first | exact mH | apply mT | apply mA) w I).shq) (fun hz2 => ?_))
          refine tk 8 rfl (Ev.to (v' := (OV.sub eRule.size _ 0 (takeC l most).us.length).v) (Ev.sliceHS Tryz.underlying24 ty76 (.t rfl) (.t rfl) hz2 (fun _ => by simp only [List.length_append, List.length_cons, List.length_nil]; omega)) (rfl)) ?_
          refine tk 9 rfl (Ev.fieldAddr (o := 2) (.t rfl) (by kernel_rfl)) ?_
          refine al1 10 rfl ((stv ty24 SConf.l_rules (.t rfl) (.t rfl) ?_))
          refine hdn (ovr (pN (mtP (X := OV) (_) trivial)))
      · refine (opv (Ev.ldv ty24 (.t rfl) SConf.l_rules) ?_)
        refine hdn (tk 7 rfl (Ev.lenQ Tryz.underlying24 (.t rfl) hq2) ?_)
        refine al1 3 rfl ((buildSlice (E := eRule) Tryz.underlying24 ty76 z76 (.cons (.t rfl) .nil) rfl rfl (fun v38 => ?_)))
        refine hdn (al1 4 rfl ((app (E := eRule) Tryz.underlying24 ty76 zb76 zs76 (.t rfl) (.t rfl) (fun v39 => ?_) (hby := ⟨by (show _ ≤ 9223372036854775807); simp only [List.length_cons, List.length_nil]; omega, by simp only [List.length_cons, List.length_nil]; omega⟩))))
        refine hdn (know (fun w I => (isSl_own (E := eRule) (xs := (takeC l most).us ++ [mkRu]) (T := 76) (by repeat first | exact mH | apply mT | apply mA) w I).shq) (fun hz2 => ?_))
        refine tk 8 rfl (Ev.to (v' := (OV.sub eRule.size _ 0 (takeC l most).us.length).v) (Ev.sliceHS Tryz.underlying24 ty76 (.t rfl) (.t rfl) hz2 (fun _ => by simp only [List.length_append, List.length_cons, List.length_nil]; omega)) (rfl)) ?_
        refine tk 9 rfl (Ev.fieldAddr (o := 2) (.t rfl) (by kernel_rfl)) ?_
        refine al1 10 rfl ((stv ty24 SConf.l_rules (.t rfl) (.t rfl) ?_))
        refine hdn (ovr (pN (mtP (X := OV) (_) trivial)))
    · refine (buildSlice (E := eRule) Tryz.underlying24 ty76 z76 (.cons (.t rfl) .nil) rfl rfl (fun v40 => ?_))
      refine hdn (all [1, 6] (by kernel_rfl) (by decide) (.cons rfl ?_ (.cons rfl ?_ .nil)))
      · refine (opv (Ev.ldv ty24 (.t rfl) SConf.l_rules) ?_)
        refine hdn (all [4, 6] (by kernel_rfl) (by decide) (.cons rfl ?_ (.cons rfl ?_ .nil)))
        · refine (app (E := eRule) Tryz.underlying24 ty76 zb76 zs76 (.t rfl) (.t rfl) (fun v41 => ?_) (hby := ⟨by (show _ ≤ 9223372036854775807); simp only [List.length_cons, List.length_nil]; omega, by simp only [List.length_cons, List.length_nil]; omega⟩))
          refine hdn (al1 6 rfl ((opv (Ev.ldv ty24 (.t rfl) SConf.l_rules) ?_)))
          refine hdn (tk 7 rfl (Ev.lenQ Tryz.underlying24 (.t rfl) hq2) ?_)
          refine know (fun w I => (isSl_own (E := eRule) (xs := (takeC l most).us ++ [mkRu]) (T := 76) (by repeat first | exact mH | apply mT | apply mA) w I).shq) (fun hz2 => ?_)
          refine tk 8 rfl (Ev.to (v' := (OV.sub eRule.size _ 0 (takeC l most).us.length).v) (Ev.sliceHS Tryz.underlying24 ty76 (.t rfl) (.t rfl) hz2 (fun _ => by simp only [List.length_append, List.length_cons, List.length_nil]; omega)) (rfl)) ?_
          refine tk 9 rfl (Ev.fieldAddr (o := 2) (.t rfl) (by kernel_rfl)) ?_
          refine al1 10 rfl ((stv ty24 SConf.l_rules (.t rfl) (.t rfl) ?_))
          refine hdn (ovr (pN (mtP (X := OV) (_) trivial)))
        · refine (opv (Ev.ldv ty24 (.t rfl) SConf.l_rules) ?_)
          refine hdn (tk 7 rfl (Ev.lenQ Tryz.underlying24 (.t rfl) hq2) ?_)
          refine al1 4 rfl ((app (E := eRule) Tryz.underlying24 ty76 zb76 zs76 (.t rfl) (.t rfl) (fun v42 => ?_) (hby := ⟨by (show _ ≤ 9223372036854775807); simp only [List.length_cons, List.length_nil]; omega, by simp only [List.length_cons, List.length_nil]; omega⟩)))
          refine hdn (know (fun w I => (isSl_own (E := eRule) (xs := (takeC l most).us ++ [mkRu]) (T := 76) (by repeat first | exact mH | apply mT | apply mA) w I).shq) (fun hz2 => ?_))
          refine tk 8 rfl (Ev.to (v' := (OV.sub eRule.size _ 0 (takeC l most).us.length).v) (Ev.sliceHS Tryz.underlying24 ty76 (.t rfl) (.t rfl) hz2 (fun _ => by simp only [List.length_append, List.length_cons, List.length_nil]; omega)) (rfl)) ?_
          refine tk 9 rfl (Ev.fieldAddr (o := 2) (.t rfl) (by kernel_rfl)) ?_
          refine al1 10 rfl ((stv ty24 SConf.l_rules (.t rfl) (.t rfl) ?_))
          refine hdn (ovr (pN (mtP (X := OV) (_) trivial)))
      · refine (opv (Ev.ldv ty24 (.t rfl) SConf.l_rules) ?_)
        refine hdn (tk 7 rfl (Ev.lenQ Tryz.underlying24 (.t rfl) hq2) ?_)
        refine al1 1 rfl ((opv (Ev.ldv ty24 (.t rfl) SConf.l_rules) ?_))
        refine hdn (al1 4 rfl ((app (E := eRule) Tryz.underlying24 ty76 zb76 zs76 (.t rfl) (.t rfl) (fun v43 => ?_) (hby := ⟨by (show _ ≤ 9223372036854775807); simp only [List.length_cons, List.length_nil]; omega, by simp only [List.length_cons, List.length_nil]; omega⟩))))
        refine hdn (know (fun w I => (isSl_own (E := eRule) (xs := (takeC l most).us ++ [mkRu]) (T := 76) (by repeat first | exact mH | apply mT | apply mA) w I).shq) (fun hz2 => ?_))
        refine tk 8 rfl (Ev.to (v' := (OV.sub eRule.size _ 0 (takeC l most).us.length).v) (Ev.sliceHS Tryz.underlying24 ty76 (.t rfl) (.t rfl) hz2 (fun _ => by simp only [List.length_append, List.length_cons, List.length_nil]; omega)) (rfl)) ?_
        refine tk 9 rfl (Ev.fieldAddr (o := 2) (.t rfl) (by kernel_rfl)) ?_
        refine al1 10 rfl ((stv ty24 SConf.l_rules (.t rfl) (.t rfl) ?_))
        refine hdn (ovr (pN (mtP (X := OV) (_) trivial)))
    · refine (opv (Ev.ldv ty24 (.t rfl) SConf.l_rules) ?_)
      refine hdn (tk 7 rfl (Ev.lenQ Tryz.underlying24 (.t rfl) hq2) ?_)
      refine all [1, 3] (by kernel_rfl) (by decide) (.cons rfl ?_ (.cons rfl ?_ .nil))
      · refine (opv (Ev.ldv ty24 (.t rfl) SConf.l_rules) ?_)
        refine hdn (al1 3 rfl ((buildSlice (E := eRule) Tryz.underlying24 ty76 z76 (.cons (.t rfl) .nil) rfl rfl (fun v44 => ?_))))
        refine hdn (al1 4 rfl ((app (E := eRule) Tryz.underlying24 ty76 zb76 zs76 (.t rfl) (.t rfl) (fun v45 => ?_) (hby := ⟨by (show _ ≤ 9223372036854775807); simp only [List.length_cons, List.length_nil]; omega, by simp only [List.length_cons, List.length_nil]; omega⟩))))
        refine hdn (know (fun w I => (isSl_own (E := eRule) (xs := (takeC l most).us ++ [mkRu]) (T := 76) (by repeat first | exact mH | apply mT | apply mA) w I).shq) (fun hz2 => ?_))
        refine tk 8 rfl (Ev.to (v' := (OV.sub eRule.size _ 0 (takeC l most).us.length).v) (Ev.sliceHS Tryz.underlying24 ty76 (.t rfl) (.t rfl) hz2 (fun _ => by simp only [List.length_append, List.length_cons, List.length_nil]; omega)) (rfl)) ?_
        refine tk 9 rfl (Ev.fieldAddr (o := 2) (.t rfl) (by kernel_rfl)) ?_
        refine al1 10 rfl ((stv ty24 SConf.l_rules (.t rfl) (.t rfl) ?_))
        refine hdn (ovr (pN (mtP (X := OV) (_) trivial)))
      · refine (buildSlice (E := eRule) Tryz.underlying24 ty76 z76 (.cons (.t rfl) .nil) rfl rfl (fun v46 => ?_))
        refine hdn (al1 1 rfl ((opv (Ev.ldv ty24 (.t rfl) SConf.l_rules) ?_)))
        refine hdn (al1 4 rfl ((app (E := eRule) Tryz.underlying24 ty76 zb76 zs76 (.t rfl) (.t rfl) (fun v47 => ?_) (hby := ⟨by (show _ ≤ 9223372036854775807); simp only [List.length_cons, List.length_nil]; omega, by simp only [List.length_cons, List.length_nil]; omega⟩))))
        refine hdn (know (fun w I => (isSl_own (E := eRule) (xs := (takeC l most).us ++ [mkRu]) (T := 76) (by repeat first | exact mH | apply mT | apply mA) w I).shq) (fun hz2 => ?_))
        refine tk 8 rfl (Ev.to (v' := (OV.sub eRule.size _ 0 (takeC l most).us.length).v) (Ev.sliceHS Tryz.underlying24 ty76 (.t rfl) (.t rfl) hz2 (fun _ => by simp only [List.length_append, List.length_cons, List.length_nil]; omega)) (rfl)) ?_
        refine tk 9 rfl (Ev.fieldAddr (o := 2) (.t rfl) (by kernel_rfl)) ?_
        refine al1 10 rfl ((stv ty24 SConf.l_rules (.t rfl) (.t rfl) ?_))
        refine hdn (ovr (pN (mtP (X := OV) (_) trivial)))
  obtain ⟨z3, rfl⟩ : ∃ y, y = x := ⟨x, rfl⟩
  show Sat _ _ [(2, true, .pointer (some ⟨b1, 0, none⟩)), (4, true, .pointer (some ⟨b2, 0, none⟩)), (5, true, .pointer (some ⟨b3, 0, none⟩)), (1, true, I (most : Nat))] [Var b3 eConf (⟨(OV.sub iE.size z1 0 (takeC l most).ps.length), (OV.sub eRoute.size z2 0 (takeC l most).rs.length), (OV.sub eRule.size z3 0 (takeC l most).us.length), a4, a5, c.default⟩ : SConf) 28, OwnS z1.v iE ((takeC l most).ps ++ [(777 : Int)]) 3, OwnS z2.v eRoute ((takeC l most).rs ++ [mkRo]) 52, OwnS z3.v eRule ((takeC l most).us ++ [mkRu]) 76, OwnS a4.v eMeterConf ((takeC l most).ms) 57, OwnS a5.v eMirrorConf ((takeC l most).xs) 59, Var b2 eConf eConf.zero 28, Var b1 eConf c 28]
  refine cut (X := OV) (fun x : OV => True) (fun x : OV => [(2, true, .pointer (some ⟨b1, 0, none⟩)), (4, true, .pointer (some ⟨b2, 0, none⟩)), (5, true, .pointer (some ⟨b3, 0, none⟩)), (1, true, I (most : Nat))]) (fun x : OV => [Var b3 eConf (⟨(OV.sub iE.size z1 0 (takeC l most).ps.length), (OV.sub eRoute.size z2 0 (takeC l most).rs.length), (OV.sub eRule.size z3 0 (takeC l most).us.length), (OV.sub eMeterConf.size x 0 (takeC l most).ms.length), a5, c.default⟩ : SConf) 28, OwnS z1.v iE ((takeC l most).ps ++ [(777 : Int)]) 3, OwnS z2.v eRoute ((takeC l most).rs ++ [mkRo]) 52, OwnS z3.v eRule ((takeC l most).us ++ [mkRu]) 76, OwnS x.v eMeterConf ((takeC l most).ms ++ [mkMe]) 57, OwnS a5.v eMirrorConf ((takeC l most).xs) 59, Var b2 eConf eConf.zero 28, Var b1 eConf c 28]) ?_ (fun x hx => ?_)
  · refine know (fun w I => (isSl_own (E := eMeterConf) (v := a4.v) (xs := (takeC l most).ms) (T := 57) (by repeat first | exact mH | apply mT | apply mA) w I).shq) (fun hq3 => ?_)
    refine draw [Var b2 eConf eConf.zero 28, Var b1 eConf c 28] (by kernel_rfl) ?_
    refine tk 0 rfl (Ev.fieldAddr (o := 3) (.t rfl) (by kernel_rfl)) ?_
    refine tk 2 rfl (Ev.buildS (fs := _) (places := [(0, 1), (1, 3)]) z57 rfl Tryz.underlying57 (by kernel_rfl) (.cons (.c (v := (Go.Value.string (ByteArray.mk #[55, 55, 55]))) rfl) .nil) (Fills.cons SMeterConf.l_name rfl Fills.nil)) ?_
    refine tk 5 rfl (Ev.fieldAddr (o := 3) (.t rfl) (by kernel_rfl)) ?_
    refine all [1, 3, 6] (by kernel_rfl) (by decide) (.cons rfl ?_ (.cons rfl ?_ (.cons rfl ?_ .nil)))
    · refine (opv (Ev.ldv ty25 (.t rfl) SConf.l_meters) ?_)
      refine hdn (all [3, 6] (by kernel_rfl) (by decide) (.cons rfl ?_ (.cons rfl ?_ .nil)))
      · refine (buildSlice (E := eMeterConf) Tryz.underlying25 ty57 z57 (.cons (.t rfl) .nil) rfl rfl (fun v48 => ?_))
        refine hdn (all [4, 6] (by kernel_rfl) (by decide) (.cons rfl ?_ (.cons rfl ?_ .nil)))
        · refine (app (E := eMeterConf) Tryz.underlying25 ty57 zb57 zs57 (.t rfl) (.t rfl) (fun v49 => ?_) (hby := ⟨by (show _ ≤ 9223372036854775807); simp only [List.length_cons, List.length_nil]; omega, by simp only [List.length_cons, List.length_nil]; omega⟩))
          refine hdn (al1 6 rfl ((opv (Ev.ldv ty25 (.t rfl) SConf.l_meters) ?_)))
          refine hdn (tk 7 rfl (Ev.lenQ Tryz.underlying25 (.t rfl) hq3) ?_)
          refine know (fun w I => (isSl_own (E := eMeterConf) (xs := (takeC l most).ms ++ [mkMe]) (T := 57) (by repeat first | exact mH | apply mT | apply mA) w I).shq) (fun hz3 => ?_)
          refine tk 8 rfl (Ev.to (v' := (OV.sub eMeterConf.size _ 0 (takeC l most).ms.length).v) (Ev.sliceHS Tryz.underlying25 ty57 (.t rfl) (.t rfl) hz3 (fun _ => by simp only [List.length_append, List.length_cons, List.length_nil]; omega)) (rfl)) ?_
          refine tk 9 rfl (Ev.fieldAddr (o := 3) (.t rfl) (by kernel_rfl)) ?_
          refine al1 10 rfl ((stv ty25 SConf.l_meters (.t rfl) (.t rfl) ?_))
          refine hdn (ovr (pN (mtP (X := OV) (_) trivial)))
        · refine (opv (Ev.ldv ty25 (.t rfl) SConf.l_meters) ?_)
          refine hdn (tk 7 rfl (Ev.lenQ Tryz.underlying25 (.t rfl) hq3) ?_)
          refine al1 4 rfl ((app (E := eMeterConf) Tryz.underlying25 ty57 zb57 zs57 (.t rfl) (.t rfl) (fun v50 => ?_) (hby := ⟨by (show _ ≤ 9223372036854775807); simp only [List.length_cons, List.length_nil]; omega, by simp only [List.length_cons, List.length_nil]; omega⟩)))
          refine hdn (know (fun w I => (isSl_own (E := eMeterConf) (xs := (takeC l most).ms ++ [mkMe]) (T := 57) (by repeat first | exact mH | apply mT | apply mA) w I).shq) (fun hz3 => ?_))
          refine tk 8 rfl (Ev.to (v' := (OV.sub eMeterConf.size _ 0 (takeC l most).ms.length).v) (Ev.sliceHS Tryz.underlying25 ty57 (.t rfl) (.t rfl) hz3 (fun _ => by simp only [List.length_append, List.length_cons, List.length_nil]; omega)) (rfl)) ?_
          refine tk 9 rfl (Ev.fieldAddr (o := 3) (.t rfl) (by kernel_rfl)) ?_
          refine al1 10 rfl ((stv ty25 SConf.l_meters (.t rfl) (.t rfl) ?_))
          refine hdn (ovr (pN (mtP (X := OV) (_) trivial)))
      · refine (opv (Ev.ldv ty25 (.t rfl) SConf.l_meters) ?_)
        refine hdn (tk 7 rfl (Ev.lenQ Tryz.underlying25 (.t rfl) hq3) ?_)
        refine al1 3 rfl ((buildSlice (E := eMeterConf) Tryz.underlying25 ty57 z57 (.cons (.t rfl) .nil) rfl rfl (fun v51 => ?_)))
        refine hdn (al1 4 rfl ((app (E := eMeterConf) Tryz.underlying25 ty57 zb57 zs57 (.t rfl) (.t rfl) (fun v52 => ?_) (hby := ⟨by (show _ ≤ 9223372036854775807); simp only [List.length_cons, List.length_nil]; omega, by simp only [List.length_cons, List.length_nil]; omega⟩))))
        refine hdn (know (fun w I => (isSl_own (E := eMeterConf) (xs := (takeC l most).ms ++ [mkMe]) (T := 57) (by repeat first | exact mH | apply mT | apply mA) w I).shq) (fun hz3 => ?_))
        refine tk 8 rfl (Ev.to (v' := (OV.sub eMeterConf.size _ 0 (takeC l most).ms.length).v) (Ev.sliceHS Tryz.underlying25 ty57 (.t rfl) (.t rfl) hz3 (fun _ => by simp only [List.length_append, List.length_cons, List.length_nil]; omega)) (rfl)) ?_
        refine tk 9 rfl (Ev.fieldAddr (o := 3) (.t rfl) (by kernel_rfl)) ?_
        refine al1 10 rfl ((stv ty25 SConf.l_meters (.t rfl) (.t rfl) ?_))
        refine hdn (ovr (pN (mtP (X := OV) (_) trivial)))
    · refine (buildSlice (E := eMeterConf) Tryz.underlying25 ty57 z57 (.cons (.t rfl) .nil) rfl rfl (fun v53 => ?_))
      refine hdn (all [1, 6] (by kernel_rfl) (by decide) (.cons rfl ?_ (.cons rfl ?_ .nil)))
      · refine (opv (Ev.ldv ty25 (.t rfl) SConf.l_meters) ?_)
        refine hdn (all [4, 6] (by kernel_rfl) (by decide) (.cons rfl ?_ (.cons rfl ?_ .nil)))
        · refine (app (E := eMeterConf) Tryz.underlying25 ty57 zb57 zs57 (.t rfl) (.t rfl) (fun v54 => ?_) (hby := ⟨by (show _ ≤ 9223372036854775807); simp only [List.length_cons, List.length_nil]; omega, by simp only [List.length_cons, List.length_nil]; omega⟩))
          refine hdn (al1 6 rfl ((opv (Ev.ldv ty25 (.t rfl) SConf.l_meters) ?_)))
          refine hdn (tk 7 rfl (Ev.lenQ Tryz.underlying25 (.t rfl) hq3) ?_)
          refine know (fun w I => (isSl_own (E := eMeterConf) (xs := (takeC l most).ms ++ [mkMe]) (T := 57) (by repeat first | exact mH | apply mT | apply mA) w I).shq) (fun hz3 => ?_)
          refine tk 8 rfl (Ev.to (v' := (OV.sub eMeterConf.size _ 0 (takeC l most).ms.length).v) (Ev.sliceHS Tryz.underlying25 ty57 (.t rfl) (.t rfl) hz3 (fun _ => by simp only [List.length_append, List.length_cons, List.length_nil]; omega)) (rfl)) ?_
          refine tk 9 rfl (Ev.fieldAddr (o := 3) (.t rfl) (by kernel_rfl)) ?_
          refine al1 10 rfl ((stv ty25 SConf.l_meters (.t rfl) (.t rfl) ?_))
          refine hdn (ovr (pN (mtP (X := OV) (_) trivial)))
        · refine (opv (Ev.ldv ty25 (.t rfl) SConf.l_meters) ?_)
          refine hdn (tk 7 rfl (Ev.lenQ Tryz.underlying25 (.t rfl) hq3) ?_)
          refine al1 4 rfl ((app (E := eMeterConf) Tryz.underlying25 ty57 zb57 zs57 (.t rfl) (.t rfl) (fun v55 => ?_) (hby := ⟨by (show _ ≤ 9223372036854775807); simp only [List.length_cons, List.length_nil]; omega, by simp only [List.length_cons, List.length_nil]; omega⟩)))
          refine hdn (know (fun w I => (isSl_own (E := eMeterConf) (xs := (takeC l most).ms ++ [mkMe]) (T := 57) (by repeat first | exact mH | apply mT | apply mA) w I).shq) (fun hz3 => ?_))
          refine tk 8 rfl (Ev.to (v' := (OV.sub eMeterConf.size _ 0 (takeC l most).ms.length).v) (Ev.sliceHS Tryz.underlying25 ty57 (.t rfl) (.t rfl) hz3 (fun _ => by simp only [List.length_append, List.length_cons, List.length_nil]; omega)) (rfl)) ?_
          refine tk 9 rfl (Ev.fieldAddr (o := 3) (.t rfl) (by kernel_rfl)) ?_
          refine al1 10 rfl ((stv ty25 SConf.l_meters (.t rfl) (.t rfl) ?_))
          refine hdn (ovr (pN (mtP (X := OV) (_) trivial)))
      · refine (opv (Ev.ldv ty25 (.t rfl) SConf.l_meters) ?_)
        refine hdn (tk 7 rfl (Ev.lenQ Tryz.underlying25 (.t rfl) hq3) ?_)
        refine al1 1 rfl ((opv (Ev.ldv ty25 (.t rfl) SConf.l_meters) ?_))
        refine hdn (al1 4 rfl ((app (E := eMeterConf) Tryz.underlying25 ty57 zb57 zs57 (.t rfl) (.t rfl) (fun v56 => ?_) (hby := ⟨by (show _ ≤ 9223372036854775807); simp only [List.length_cons, List.length_nil]; omega, by simp only [List.length_cons, List.length_nil]; omega⟩))))
        refine hdn (know (fun w I => (isSl_own (E := eMeterConf) (xs := (takeC l most).ms ++ [mkMe]) (T := 57) (by repeat first | exact mH | apply mT | apply mA) w I).shq) (fun hz3 => ?_))
        refine tk 8 rfl (Ev.to (v' := (OV.sub eMeterConf.size _ 0 (takeC l most).ms.length).v) (Ev.sliceHS Tryz.underlying25 ty57 (.t rfl) (.t rfl) hz3 (fun _ => by simp only [List.length_append, List.length_cons, List.length_nil]; omega)) (rfl)) ?_
        refine tk 9 rfl (Ev.fieldAddr (o := 3) (.t rfl) (by kernel_rfl)) ?_
        refine al1 10 rfl ((stv ty25 SConf.l_meters (.t rfl) (.t rfl) ?_))
        refine hdn (ovr (pN (mtP (X := OV) (_) trivial)))
    · refine (opv (Ev.ldv ty25 (.t rfl) SConf.l_meters) ?_)
      refine hdn (tk 7 rfl (Ev.lenQ Tryz.underlying25 (.t rfl) hq3) ?_)
      refine all [1, 3] (by kernel_rfl) (by decide) (.cons rfl ?_ (.cons rfl ?_ .nil))
      · refine (opv (Ev.ldv ty25 (.t rfl) SConf.l_meters) ?_)
        refine hdn (al1 3 rfl ((buildSlice (E := eMeterConf) Tryz.underlying25 ty57 z57 (.cons (.t rfl) .nil) rfl rfl (fun v57 => ?_))))
        refine hdn (al1 4 rfl ((app (E := eMeterConf) Tryz.underlying25 ty57 zb57 zs57 (.t rfl) (.t rfl) (fun v58 => ?_) (hby := ⟨by (show _ ≤ 9223372036854775807); simp only [List.length_cons, List.length_nil]; omega, by simp only [List.length_cons, List.length_nil]; omega⟩))))
        refine hdn (know (fun w I => (isSl_own (E := eMeterConf) (xs := (takeC l most).ms ++ [mkMe]) (T := 57) (by repeat first | exact mH | apply mT | apply mA) w I).shq) (fun hz3 => ?_))
        refine tk 8 rfl (Ev.to (v' := (OV.sub eMeterConf.size _ 0 (takeC l most).ms.length).v) (Ev.sliceHS Tryz.underlying25 ty57 (.t rfl) (.t rfl) hz3 (fun _ => by simp only [List.length_append, List.length_cons, List.length_nil]; omega)) (rfl)) ?_
        refine tk 9 rfl (Ev.fieldAddr (o := 3) (.t rfl) (by kernel_rfl)) ?_
        refine al1 10 rfl ((stv ty25 SConf.l_meters (.t rfl) (.t rfl) ?_))
        refine hdn (ovr (pN (mtP (X := OV) (_) trivial)))
      · refine (buildSlice (E := eMeterConf) Tryz.underlying25 ty57 z57 (.cons (.t rfl) .nil) rfl rfl (fun v59 => ?_))
        refine hdn (al1 1 rfl ((opv (Ev.ldv ty25 (.t rfl) SConf.l_meters) ?_)))
        refine hdn (al1 4 rfl ((app (E := eMeterConf) Tryz.underlying25 ty57 zb57 zs57 (.t rfl) (.t rfl) (fun v60 => ?_) (hby := ⟨by (show _ ≤ 9223372036854775807); simp only [List.length_cons, List.length_nil]; omega, by simp only [List.length_cons, List.length_nil]; omega⟩))))
        refine hdn (know (fun w I => (isSl_own (E := eMeterConf) (xs := (takeC l most).ms ++ [mkMe]) (T := 57) (by repeat first | exact mH | apply mT | apply mA) w I).shq) (fun hz3 => ?_))
        refine tk 8 rfl (Ev.to (v' := (OV.sub eMeterConf.size _ 0 (takeC l most).ms.length).v) (Ev.sliceHS Tryz.underlying25 ty57 (.t rfl) (.t rfl) hz3 (fun _ => by simp only [List.length_append, List.length_cons, List.length_nil]; omega)) (rfl)) ?_
        refine tk 9 rfl (Ev.fieldAddr (o := 3) (.t rfl) (by kernel_rfl)) ?_
        refine al1 10 rfl ((stv ty25 SConf.l_meters (.t rfl) (.t rfl) ?_))
        refine hdn (ovr (pN (mtP (X := OV) (_) trivial)))
  obtain ⟨z4, rfl⟩ : ∃ y, y = x := ⟨x, rfl⟩
  show Sat _ _ [(2, true, .pointer (some ⟨b1, 0, none⟩)), (4, true, .pointer (some ⟨b2, 0, none⟩)), (5, true, .pointer (some ⟨b3, 0, none⟩)), (1, true, I (most : Nat))] [Var b3 eConf (⟨(OV.sub iE.size z1 0 (takeC l most).ps.length), (OV.sub eRoute.size z2 0 (takeC l most).rs.length), (OV.sub eRule.size z3 0 (takeC l most).us.length), (OV.sub eMeterConf.size z4 0 (takeC l most).ms.length), a5, c.default⟩ : SConf) 28, OwnS z1.v iE ((takeC l most).ps ++ [(777 : Int)]) 3, OwnS z2.v eRoute ((takeC l most).rs ++ [mkRo]) 52, OwnS z3.v eRule ((takeC l most).us ++ [mkRu]) 76, OwnS z4.v eMeterConf ((takeC l most).ms ++ [mkMe]) 57, OwnS a5.v eMirrorConf ((takeC l most).xs) 59, Var b2 eConf eConf.zero 28, Var b1 eConf c 28]
  refine cut (X := OV) (fun x : OV => True) (fun x : OV => [(2, true, .pointer (some ⟨b1, 0, none⟩)), (4, true, .pointer (some ⟨b2, 0, none⟩)), (5, true, .pointer (some ⟨b3, 0, none⟩)), (1, true, I (most : Nat))]) (fun x : OV => [Var b3 eConf (⟨(OV.sub iE.size z1 0 (takeC l most).ps.length), (OV.sub eRoute.size z2 0 (takeC l most).rs.length), (OV.sub eRule.size z3 0 (takeC l most).us.length), (OV.sub eMeterConf.size z4 0 (takeC l most).ms.length), (OV.sub eMirrorConf.size x 0 (takeC l most).xs.length), c.default⟩ : SConf) 28, OwnS z1.v iE ((takeC l most).ps ++ [(777 : Int)]) 3, OwnS z2.v eRoute ((takeC l most).rs ++ [mkRo]) 52, OwnS z3.v eRule ((takeC l most).us ++ [mkRu]) 76, OwnS z4.v eMeterConf ((takeC l most).ms ++ [mkMe]) 57, OwnS x.v eMirrorConf ((takeC l most).xs ++ [mkMi]) 59, Var b2 eConf eConf.zero 28, Var b1 eConf c 28]) ?_ (fun x hx => ?_)
  · refine know (fun w I => (isSl_own (E := eMirrorConf) (v := a5.v) (xs := (takeC l most).xs) (T := 59) (by repeat first | exact mH | apply mT | apply mA) w I).shq) (fun hq4 => ?_)
    refine draw [Var b2 eConf eConf.zero 28, Var b1 eConf c 28] (by kernel_rfl) ?_
    refine tk 0 rfl (Ev.fieldAddr (o := 4) (.t rfl) (by kernel_rfl)) ?_
    refine tk 2 rfl (Ev.buildS (fs := _) (places := [(0, 1), (1, 1), (2, 1)]) z59 rfl Tryz.underlying59 (by kernel_rfl) (.cons (.c (v := I 777) rfl) .nil) (Fills.cons SMirrorConf.l_out rfl Fills.nil)) ?_
    refine tk 5 rfl (Ev.fieldAddr (o := 4) (.t rfl) (by kernel_rfl)) ?_
    refine all [1, 3, 6] (by kernel_rfl) (by decide) (.cons rfl ?_ (.cons rfl ?_ (.cons rfl ?_ .nil)))
    · refine (opv (Ev.ldv ty26 (.t rfl) SConf.l_mirrors) ?_)
      refine hdn (all [3, 6] (by kernel_rfl) (by decide) (.cons rfl ?_ (.cons rfl ?_ .nil)))
      · refine (buildSlice (E := eMirrorConf) Tryz.underlying26 ty59 z59 (.cons (.t rfl) .nil) rfl rfl (fun v61 => ?_))
        refine hdn (all [4, 6] (by kernel_rfl) (by decide) (.cons rfl ?_ (.cons rfl ?_ .nil)))
        · refine (app (E := eMirrorConf) Tryz.underlying26 ty59 zb59 zs59 (.t rfl) (.t rfl) (fun v62 => ?_) (hby := ⟨by (show _ ≤ 9223372036854775807); simp only [List.length_cons, List.length_nil]; omega, by simp only [List.length_cons, List.length_nil]; omega⟩))
          refine hdn (al1 6 rfl ((opv (Ev.ldv ty26 (.t rfl) SConf.l_mirrors) ?_)))
          refine hdn (tk 7 rfl (Ev.lenQ Tryz.underlying26 (.t rfl) hq4) ?_)
          refine know (fun w I => (isSl_own (E := eMirrorConf) (xs := (takeC l most).xs ++ [mkMi]) (T := 59) (by repeat first | exact mH | apply mT | apply mA) w I).shq) (fun hz4 => ?_)
          refine tk 8 rfl (Ev.to (v' := (OV.sub eMirrorConf.size _ 0 (takeC l most).xs.length).v) (Ev.sliceHS Tryz.underlying26 ty59 (.t rfl) (.t rfl) hz4 (fun _ => by simp only [List.length_append, List.length_cons, List.length_nil]; omega)) (rfl)) ?_
          refine tk 9 rfl (Ev.fieldAddr (o := 4) (.t rfl) (by kernel_rfl)) ?_
          refine al1 10 rfl ((stv ty26 SConf.l_mirrors (.t rfl) (.t rfl) ?_))
          refine hdn (ovr (pN (mtP (X := OV) (_) trivial)))
        · refine (opv (Ev.ldv ty26 (.t rfl) SConf.l_mirrors) ?_)
          refine hdn (tk 7 rfl (Ev.lenQ Tryz.underlying26 (.t rfl) hq4) ?_)
          refine al1 4 rfl ((app (E := eMirrorConf) Tryz.underlying26 ty59 zb59 zs59 (.t rfl) (.t rfl) (fun v63 => ?_) (hby := ⟨by (show _ ≤ 9223372036854775807); simp only [List.length_cons, List.length_nil]; omega, by simp only [List.length_cons, List.length_nil]; omega⟩)))
          refine hdn (know (fun w I => (isSl_own (E := eMirrorConf) (xs := (takeC l most).xs ++ [mkMi]) (T := 59) (by repeat first | exact mH | apply mT | apply mA) w I).shq) (fun hz4 => ?_))
          refine tk 8 rfl (Ev.to (v' := (OV.sub eMirrorConf.size _ 0 (takeC l most).xs.length).v) (Ev.sliceHS Tryz.underlying26 ty59 (.t rfl) (.t rfl) hz4 (fun _ => by simp only [List.length_append, List.length_cons, List.length_nil]; omega)) (rfl)) ?_
          refine tk 9 rfl (Ev.fieldAddr (o := 4) (.t rfl) (by kernel_rfl)) ?_
          refine al1 10 rfl ((stv ty26 SConf.l_mirrors (.t rfl) (.t rfl) ?_))
          refine hdn (ovr (pN (mtP (X := OV) (_) trivial)))
      · refine (opv (Ev.ldv ty26 (.t rfl) SConf.l_mirrors) ?_)
        refine hdn (tk 7 rfl (Ev.lenQ Tryz.underlying26 (.t rfl) hq4) ?_)
        refine al1 3 rfl ((buildSlice (E := eMirrorConf) Tryz.underlying26 ty59 z59 (.cons (.t rfl) .nil) rfl rfl (fun v64 => ?_)))
        refine hdn (al1 4 rfl ((app (E := eMirrorConf) Tryz.underlying26 ty59 zb59 zs59 (.t rfl) (.t rfl) (fun v65 => ?_) (hby := ⟨by (show _ ≤ 9223372036854775807); simp only [List.length_cons, List.length_nil]; omega, by simp only [List.length_cons, List.length_nil]; omega⟩))))
        refine hdn (know (fun w I => (isSl_own (E := eMirrorConf) (xs := (takeC l most).xs ++ [mkMi]) (T := 59) (by repeat first | exact mH | apply mT | apply mA) w I).shq) (fun hz4 => ?_))
        refine tk 8 rfl (Ev.to (v' := (OV.sub eMirrorConf.size _ 0 (takeC l most).xs.length).v) (Ev.sliceHS Tryz.underlying26 ty59 (.t rfl) (.t rfl) hz4 (fun _ => by simp only [List.length_append, List.length_cons, List.length_nil]; omega)) (rfl)) ?_
        refine tk 9 rfl (Ev.fieldAddr (o := 4) (.t rfl) (by kernel_rfl)) ?_
        refine al1 10 rfl ((stv ty26 SConf.l_mirrors (.t rfl) (.t rfl) ?_))
        refine hdn (ovr (pN (mtP (X := OV) (_) trivial)))
    · refine (buildSlice (E := eMirrorConf) Tryz.underlying26 ty59 z59 (.cons (.t rfl) .nil) rfl rfl (fun v66 => ?_))
      refine hdn (all [1, 6] (by kernel_rfl) (by decide) (.cons rfl ?_ (.cons rfl ?_ .nil)))
      · refine (opv (Ev.ldv ty26 (.t rfl) SConf.l_mirrors) ?_)
        refine hdn (all [4, 6] (by kernel_rfl) (by decide) (.cons rfl ?_ (.cons rfl ?_ .nil)))
        · refine (app (E := eMirrorConf) Tryz.underlying26 ty59 zb59 zs59 (.t rfl) (.t rfl) (fun v67 => ?_) (hby := ⟨by (show _ ≤ 9223372036854775807); simp only [List.length_cons, List.length_nil]; omega, by simp only [List.length_cons, List.length_nil]; omega⟩))
          refine hdn (al1 6 rfl ((opv (Ev.ldv ty26 (.t rfl) SConf.l_mirrors) ?_)))
          refine hdn (tk 7 rfl (Ev.lenQ Tryz.underlying26 (.t rfl) hq4) ?_)
          refine know (fun w I => (isSl_own (E := eMirrorConf) (xs := (takeC l most).xs ++ [mkMi]) (T := 59) (by repeat first | exact mH | apply mT | apply mA) w I).shq) (fun hz4 => ?_)
          refine tk 8 rfl (Ev.to (v' := (OV.sub eMirrorConf.size _ 0 (takeC l most).xs.length).v) (Ev.sliceHS Tryz.underlying26 ty59 (.t rfl) (.t rfl) hz4 (fun _ => by simp only [List.length_append, List.length_cons, List.length_nil]; omega)) (rfl)) ?_
          refine tk 9 rfl (Ev.fieldAddr (o := 4) (.t rfl) (by kernel_rfl)) ?_
          refine al1 10 rfl ((stv ty26 SConf.l_mirrors (.t rfl) (.t rfl) ?_))
          refine hdn (ovr (pN (mtP (X := OV) (_) trivial)))
        · refine (opv (Ev.ldv ty26 (.t rfl) SConf.l_mirrors) ?_)
          refine hdn (tk 7 rfl (Ev.lenQ Tryz.underlying26 (.t rfl) hq4) ?_)
          refine al1 4 rfl ((app (E := eMirrorConf) Tryz.underlying26 ty59 zb59 zs59 (.t rfl) (.t rfl) (fun v68 => ?_) (hby := ⟨by (show _ ≤ 9223372036854775807); simp only [List.length_cons, List.length_nil]; omega, by simp only [List.length_cons, List.length_nil]; omega⟩)))
          refine hdn (know (fun w I => (isSl_own (E := eMirrorConf) (xs := (takeC l most).xs ++ [mkMi]) (T := 59) (by repeat first | exact mH | apply mT | apply mA) w I).shq) (fun hz4 => ?_))
          refine tk 8 rfl (Ev.to (v' := (OV.sub eMirrorConf.size _ 0 (takeC l most).xs.length).v) (Ev.sliceHS Tryz.underlying26 ty59 (.t rfl) (.t rfl) hz4 (fun _ => by simp only [List.length_append, List.length_cons, List.length_nil]; omega)) (rfl)) ?_
          refine tk 9 rfl (Ev.fieldAddr (o := 4) (.t rfl) (by kernel_rfl)) ?_
          refine al1 10 rfl ((stv ty26 SConf.l_mirrors (.t rfl) (.t rfl) ?_))
          refine hdn (ovr (pN (mtP (X := OV) (_) trivial)))
      · refine (opv (Ev.ldv ty26 (.t rfl) SConf.l_mirrors) ?_)
        refine hdn (tk 7 rfl (Ev.lenQ Tryz.underlying26 (.t rfl) hq4) ?_)
        refine al1 1 rfl ((opv (Ev.ldv ty26 (.t rfl) SConf.l_mirrors) ?_))
        refine hdn (al1 4 rfl ((app (E := eMirrorConf) Tryz.underlying26 ty59 zb59 zs59 (.t rfl) (.t rfl) (fun v69 => ?_) (hby := ⟨by (show _ ≤ 9223372036854775807); simp only [List.length_cons, List.length_nil]; omega, by simp only [List.length_cons, List.length_nil]; omega⟩))))
        refine hdn (know (fun w I => (isSl_own (E := eMirrorConf) (xs := (takeC l most).xs ++ [mkMi]) (T := 59) (by repeat first | exact mH | apply mT | apply mA) w I).shq) (fun hz4 => ?_))
        refine tk 8 rfl (Ev.to (v' := (OV.sub eMirrorConf.size _ 0 (takeC l most).xs.length).v) (Ev.sliceHS Tryz.underlying26 ty59 (.t rfl) (.t rfl) hz4 (fun _ => by simp only [List.length_append, List.length_cons, List.length_nil]; omega)) (rfl)) ?_
        refine tk 9 rfl (Ev.fieldAddr (o := 4) (.t rfl) (by kernel_rfl)) ?_
        refine al1 10 rfl ((stv ty26 SConf.l_mirrors (.t rfl) (.t rfl) ?_))
        refine hdn (ovr (pN (mtP (X := OV) (_) trivial)))
    · refine (opv (Ev.ldv ty26 (.t rfl) SConf.l_mirrors) ?_)
      refine hdn (tk 7 rfl (Ev.lenQ Tryz.underlying26 (.t rfl) hq4) ?_)
      refine all [1, 3] (by kernel_rfl) (by decide) (.cons rfl ?_ (.cons rfl ?_ .nil))
      · refine (opv (Ev.ldv ty26 (.t rfl) SConf.l_mirrors) ?_)
        refine hdn (al1 3 rfl ((buildSlice (E := eMirrorConf) Tryz.underlying26 ty59 z59 (.cons (.t rfl) .nil) rfl rfl (fun v70 => ?_))))
        refine hdn (al1 4 rfl ((app (E := eMirrorConf) Tryz.underlying26 ty59 zb59 zs59 (.t rfl) (.t rfl) (fun v71 => ?_) (hby := ⟨by (show _ ≤ 9223372036854775807); simp only [List.length_cons, List.length_nil]; omega, by simp only [List.length_cons, List.length_nil]; omega⟩))))
        refine hdn (know (fun w I => (isSl_own (E := eMirrorConf) (xs := (takeC l most).xs ++ [mkMi]) (T := 59) (by repeat first | exact mH | apply mT | apply mA) w I).shq) (fun hz4 => ?_))
        refine tk 8 rfl (Ev.to (v' := (OV.sub eMirrorConf.size _ 0 (takeC l most).xs.length).v) (Ev.sliceHS Tryz.underlying26 ty59 (.t rfl) (.t rfl) hz4 (fun _ => by simp only [List.length_append, List.length_cons, List.length_nil]; omega)) (rfl)) ?_
        refine tk 9 rfl (Ev.fieldAddr (o := 4) (.t rfl) (by kernel_rfl)) ?_
        refine al1 10 rfl ((stv ty26 SConf.l_mirrors (.t rfl) (.t rfl) ?_))
        refine hdn (ovr (pN (mtP (X := OV) (_) trivial)))
      · refine (buildSlice (E := eMirrorConf) Tryz.underlying26 ty59 z59 (.cons (.t rfl) .nil) rfl rfl (fun v72 => ?_))
        refine hdn (al1 1 rfl ((opv (Ev.ldv ty26 (.t rfl) SConf.l_mirrors) ?_)))
        refine hdn (al1 4 rfl ((app (E := eMirrorConf) Tryz.underlying26 ty59 zb59 zs59 (.t rfl) (.t rfl) (fun v73 => ?_) (hby := ⟨by (show _ ≤ 9223372036854775807); simp only [List.length_cons, List.length_nil]; omega, by simp only [List.length_cons, List.length_nil]; omega⟩))))
        refine hdn (know (fun w I => (isSl_own (E := eMirrorConf) (xs := (takeC l most).xs ++ [mkMi]) (T := 59) (by repeat first | exact mH | apply mT | apply mA) w I).shq) (fun hz4 => ?_))
        refine tk 8 rfl (Ev.to (v' := (OV.sub eMirrorConf.size _ 0 (takeC l most).xs.length).v) (Ev.sliceHS Tryz.underlying26 ty59 (.t rfl) (.t rfl) hz4 (fun _ => by simp only [List.length_append, List.length_cons, List.length_nil]; omega)) (rfl)) ?_
        refine tk 9 rfl (Ev.fieldAddr (o := 4) (.t rfl) (by kernel_rfl)) ?_
        refine al1 10 rfl ((stv ty26 SConf.l_mirrors (.t rfl) (.t rfl) ?_))
        refine hdn (ovr (pN (mtP (X := OV) (_) trivial)))
  obtain ⟨z5, rfl⟩ : ∃ y, y = x := ⟨x, rfl⟩
  show Sat _ _ [(2, true, .pointer (some ⟨b1, 0, none⟩)), (4, true, .pointer (some ⟨b2, 0, none⟩)), (5, true, .pointer (some ⟨b3, 0, none⟩)), (1, true, I (most : Nat))] [Var b3 eConf (⟨(OV.sub iE.size z1 0 (takeC l most).ps.length), (OV.sub eRoute.size z2 0 (takeC l most).rs.length), (OV.sub eRule.size z3 0 (takeC l most).us.length), (OV.sub eMeterConf.size z4 0 (takeC l most).ms.length), (OV.sub eMirrorConf.size z5 0 (takeC l most).xs.length), c.default⟩ : SConf) 28, OwnS z1.v iE ((takeC l most).ps ++ [(777 : Int)]) 3, OwnS z2.v eRoute ((takeC l most).rs ++ [mkRo]) 52, OwnS z3.v eRule ((takeC l most).us ++ [mkRu]) 76, OwnS z4.v eMeterConf ((takeC l most).ms ++ [mkMe]) 57, OwnS z5.v eMirrorConf ((takeC l most).xs ++ [mkMi]) 59, Var b2 eConf eConf.zero 28, Var b1 eConf c 28]
  refine seq (region (cons (opv (Ev.ldv ty28 (.t rfl) (Lens.id _)) ?_)))
  refine cons (stv ty28 (Lens.id _) (.t rfl) (.t rfl) ?_)
  refine nil (pN (ret (done rfl (.cell rfl (fun w I => run_loadVar_pts ty28 (ptsVar (by repeat first | exact mH | apply mT | apply mA) (Lens.id _) w I)) .nil) (fun w I => ?_))))
  exact retNP (⟨z1, z2, z3, z4, z5⟩ : CB) trivial rfl (by repeat first | exact SubP.nil | refine SubP.cons (by repeat first | exact Rem.head | apply Rem.tail) ?_) w I
theorem isSl_all {α : Type} {E : Enc α} {w : World} {v : Value} {l : List α} {x : α} (h : IsSl E w v (l ++ [x])) : IsSl E w (subS E.size v 0 (l.length + 1)) (l ++ [x]) := by
  have := h.sub (l := 0) (k := l.length + 1) (by omega) (by simp)
  rwa [List.take_of_length_le (by simp), List.drop_zero] at this
theorem getD_mark {α : Type} (l : List α) (x z : α) (i : Nat) (h : i = l.length) : (l ++ [x]).getD i z = x := by
  subst h
  simp [List.getD]
theorem marked_ok (y : CB) (l : CL) (d : Int) (w : World) (hm : ConfAt w (y.c d) (markL l)) : Calls Tryz.prog 19 #[eConf.val ((subC y l).c d)] w (RetV w (.bool true)) := by
  have hs := hm.sub
  have hm0 : IsSl iE w y.o1.v (l.ps ++ [(777 : Int)]) := hm.ps
  have hle0 := hm0.le
  rw [List.length_append, List.length_singleton] at hle0
  have hm1 : IsSl eRoute w y.o2.v (l.rs ++ [mkRo]) := hm.rs
  have hle1 := hm1.le
  rw [List.length_append, List.length_singleton] at hle1
  have hm2 : IsSl eRule w y.o3.v (l.us ++ [mkRu]) := hm.us
  have hle2 := hm2.le
  rw [List.length_append, List.length_singleton] at hle2
  have hm3 : IsSl eMeterConf w y.o4.v (l.ms ++ [mkMe]) := hm.ms
  have hle3 := hm3.le
  rw [List.length_append, List.length_singleton] at hle3
  have hm4 : IsSl eMirrorConf w y.o5.v (l.xs ++ [mkMi]) := hm.xs
  have hle4 := hm4.le
  rw [List.length_append, List.length_singleton] at hle4
  refine enter0 80 Tryz.func19 rfl rfl (Nat.le_of_ble_eq_true rfl) ?_
  refine seq (region (cons (box (E := eConf) (.t rfl) (fun b1 => ?_))))
  refine cons (opv (Ev.assign (.c (v := .bool false) rfl)) ?_)
  refine nil (pN (seq (draw' (by kernel_rfl) ?_)))
  refine tk 0 rfl (Ev.fieldAddr (o := 0) (.t rfl) (by kernel_rfl)) ?_
  refine tk 1 rfl (Ev.ldv ty22 (.t rfl) SConf.l_ports) ?_
  refine tk 2 rfl (Ev.len Tryz.underlying22 (.t rfl) (fun w I => (hs.keep0 I.keeps).ps)) ?_
  refine tk 3 rfl (Ev.fieldAddr (o := 1) (.t rfl) (by kernel_rfl)) ?_
  refine tk 4 rfl (Ev.ldv ty23 (.t rfl) SConf.l_routes) ?_
  refine tk 5 rfl (Ev.len Tryz.underlying23 (.t rfl) (fun w I => (hs.keep0 I.keeps).rs)) ?_
  refine tk 6 rfl (Ev.fieldAddr (o := 2) (.t rfl) (by kernel_rfl)) ?_
  refine tk 7 rfl (Ev.ldv ty24 (.t rfl) SConf.l_rules) ?_
  refine tk 8 rfl (Ev.len Tryz.underlying24 (.t rfl) (fun w I => (hs.keep0 I.keeps).us)) ?_
  refine tk 9 rfl (Ev.fieldAddr (o := 3) (.t rfl) (by kernel_rfl)) ?_
  refine tk 10 rfl (Ev.ldv ty25 (.t rfl) SConf.l_meters) ?_
  refine tk 11 rfl (Ev.len Tryz.underlying25 (.t rfl) (fun w I => (hs.keep0 I.keeps).ms)) ?_
  refine tk 12 rfl (Ev.fieldAddr (o := 4) (.t rfl) (by kernel_rfl)) ?_
  refine tk 13 rfl (Ev.ldv ty26 (.t rfl) SConf.l_mirrors) ?_
  refine tk 14 rfl (Ev.len Tryz.underlying26 (.t rfl) (fun w I => (hs.keep0 I.keeps).xs)) ?_
  refine tk 15 rfl (Ev.assign (.t rfl)) ?_
  refine tk 16 rfl (Ev.assign (.t rfl)) ?_
  refine tk 17 rfl (Ev.assign (.t rfl)) ?_
  refine tk 18 rfl (Ev.assign (.t rfl)) ?_
  refine tk 19 rfl (Ev.assign (.t rfl)) ?_
  refine ovr (pN (seq (region (cons (opv (Ev.fieldAddr (o := 0) (.t rfl) (by kernel_rfl)) ?_)))))
  refine cons (opv (Ev.ldv ty22 (.t rfl) SConf.l_ports) ?_)
  refine cons (opv (Ev.move (.t rfl)) (cons (opv (Ev.add_i (.t rfl) (.c (v := I 1) rfl) (fun _ => by omega)) ?_)))
  refine cons (opv (Ev.sliceUpH (n := l.ps.length) (xs := l.ps ++ [(777 : Int)]) Tryz.underlying22 ty3 (.t rfl) (.t rfl) (fun w I => hm0.keep0 I.keeps) (fun _ => by simp only [List.length_append, List.length_cons, List.length_nil]; omega)) ?_)
  refine cons (opv (Ev.move (.t rfl)) (cons (opv (Ev.indexAddr Tryz.underlying22 ty3 (.t rfl) (.t rfl) (fun w I => isSl_all (hm0.keep0 I.keeps)) (fun _ => by simp only [List.length_append, List.length_cons, List.length_nil]; omega)) ?_)))
  refine cons (opv (Ev.to (v' := I 777) (Ev.loadS0 ty3 (.t rfl) (fun w I => isSl_all (hm0.keep0 I.keeps)) (fun _ => by simp only [List.length_append, List.length_cons, List.length_nil]; omega)) (congrArg I (getD_mark l.ps 777 _ _ (by omega)))) ?_)
  refine cons (opv (Ev.to (v' := .bool true) (Ev.eql_i (.t rfl) (.c (v := I 777) rfl)) (rfl)) ?_)
  refine cons (opv (Ev.move (.t rfl)) (cons (opg rfl rfl (Ev.fieldAddr (o := 1) (.t rfl) (by kernel_rfl)) ?_)))
  refine cons (opg rfl rfl (Ev.ldv ty23 (.g rfl id) SConf.l_routes) ?_)
  refine cons (opg rfl rfl (Ev.move (.t rfl)) ?_)
  refine cons (opg rfl rfl (Ev.add_i (.g rfl id) (.c (v := I 1) rfl) (fun _ => by first | omega | (rename_i hg; simp at hg; omega))) ?_)
  refine cons (opg rfl rfl (Ev.sliceUpH (n := l.rs.length) (xs := l.rs ++ [mkRo]) Tryz.underlying23 ty52 (.g rfl id) (.g rfl id) (fun w I => hm1.keep0 I.keeps) (fun _ => by simp only [List.length_append, List.length_cons, List.length_nil]; omega)) ?_)
  refine cons (opg rfl rfl (Ev.move (.t rfl)) ?_)
  refine cons (opg rfl rfl (Ev.indexAddr Tryz.underlying23 ty52 (.g rfl id) (.g rfl id) (fun w I => isSl_all (hm1.keep0 I.keeps)) (fun _ => by simp only [List.length_append, List.length_cons, List.length_nil]; omega)) ?_)
  refine cons (opg rfl rfl (Ev.fieldAddrS (o := 18) (i := (l.rs.length : Int)) (.g rfl id) (fun w I => isSl_all (hm1.keep0 I.keeps)) (fun _ => by simp only [List.length_append, List.length_cons, List.length_nil]; omega) (by kernel_rfl)) ?_)
  refine cons (opg rfl rfl (Ev.to (v' := I 777) (Ev.loadS ty3 SRoute.l_out rfl (.g rfl id) (fun w I => isSl_all (hm1.keep0 I.keeps)) (fun _ => by simp only [List.length_append, List.length_cons, List.length_nil]; omega)) (congrArg (fun z => I (SRoute.l_out.get z)) (getD_mark l.rs mkRo _ _ (by omega)))) ?_)
  refine cons (opg rfl rfl (Ev.to (v' := .bool true) (Ev.eql_i (.g rfl id) (.c (v := I 777) rfl)) (rfl)) ?_)
  refine cons (opv (Ev.to (v' := .bool true) (Ev.pickA (.t rfl) (fun {_} h => by cases h; rfl) ⟨_, rfl⟩ (by intro h1 h; first | (rw [h] <;> rfl) | (rw [h1, h] <;> rfl) | (rw [h, h1] <;> rfl) | simp_all) (.c (v := .bool false) rfl)) (rfl)) ?_)
  refine cons (opv (Ev.move (.t rfl)) (cons (opg rfl rfl (Ev.fieldAddr (o := 2) (.t rfl) (by kernel_rfl)) ?_)))
  refine cons (opg rfl rfl (Ev.ldv ty24 (.g rfl id) SConf.l_rules) ?_)
  refine cons (opg rfl rfl (Ev.move (.t rfl)) ?_)
  refine cons (opg rfl rfl (Ev.add_i (.g rfl id) (.c (v := I 1) rfl) (fun _ => by first | omega | (rename_i hg; simp at hg; omega))) ?_)
  refine cons (opg rfl rfl (Ev.sliceUpH (n := l.us.length) (xs := l.us ++ [mkRu]) Tryz.underlying24 ty76 (.g rfl id) (.g rfl id) (fun w I => hm2.keep0 I.keeps) (fun _ => by simp only [List.length_append, List.length_cons, List.length_nil]; omega)) ?_)
  refine cons (opg rfl rfl (Ev.move (.t rfl)) ?_)
  refine cons (opg rfl rfl (Ev.indexAddr Tryz.underlying24 ty76 (.g rfl id) (.g rfl id) (fun w I => isSl_all (hm2.keep0 I.keeps)) (fun _ => by simp only [List.length_append, List.length_cons, List.length_nil]; omega)) ?_)
  refine cons (opg rfl rfl (Ev.fieldAddrS (o := 46) (i := (l.us.length : Int)) (.g rfl id) (fun w I => isSl_all (hm2.keep0 I.keeps)) (fun _ => by simp only [List.length_append, List.length_cons, List.length_nil]; omega) (by kernel_rfl)) ?_)
  refine cons (opg rfl rfl (Ev.to (v' := I 777) (Ev.loadS ty3 SRule.l_out rfl (.g rfl id) (fun w I => isSl_all (hm2.keep0 I.keeps)) (fun _ => by simp only [List.length_append, List.length_cons, List.length_nil]; omega)) (congrArg (fun z => I (SRule.l_out.get z)) (getD_mark l.us mkRu _ _ (by omega)))) ?_)
  refine cons (opg rfl rfl (Ev.to (v' := .bool true) (Ev.eql_i (.g rfl id) (.c (v := I 777) rfl)) (rfl)) ?_)
  refine cons (opv (Ev.to (v' := .bool true) (Ev.pickA (.t rfl) (fun {_} h => by cases h; rfl) ⟨_, rfl⟩ (by intro h1 h; first | (rw [h] <;> rfl) | (rw [h1, h] <;> rfl) | (rw [h, h1] <;> rfl) | simp_all) (.c (v := .bool false) rfl)) (rfl)) ?_)
  refine cons (opv (Ev.move (.t rfl)) (cons (opg rfl rfl (Ev.fieldAddr (o := 3) (.t rfl) (by kernel_rfl)) ?_)))
  refine cons (opg rfl rfl (Ev.ldv ty25 (.g rfl id) SConf.l_meters) ?_)
  refine cons (opg rfl rfl (Ev.move (.t rfl)) ?_)
  refine cons (opg rfl rfl (Ev.add_i (.g rfl id) (.c (v := I 1) rfl) (fun _ => by first | omega | (rename_i hg; simp at hg; omega))) ?_)
  refine cons (opg rfl rfl (Ev.sliceUpH (n := l.ms.length) (xs := l.ms ++ [mkMe]) Tryz.underlying25 ty57 (.g rfl id) (.g rfl id) (fun w I => hm3.keep0 I.keeps) (fun _ => by simp only [List.length_append, List.length_cons, List.length_nil]; omega)) ?_)
  refine cons (opg rfl rfl (Ev.move (.t rfl)) ?_)
  refine cons (opg rfl rfl (Ev.indexAddr Tryz.underlying25 ty57 (.g rfl id) (.g rfl id) (fun w I => isSl_all (hm3.keep0 I.keeps)) (fun _ => by simp only [List.length_append, List.length_cons, List.length_nil]; omega)) ?_)
  refine cons (opg rfl rfl (Ev.fieldAddrS (o := 0) (i := (l.ms.length : Int)) (.g rfl id) (fun w I => isSl_all (hm3.keep0 I.keeps)) (fun _ => by simp only [List.length_append, List.length_cons, List.length_nil]; omega) (by kernel_rfl)) ?_)
  refine cons (opg rfl rfl (Ev.to (v' := .string ⟨#[55, 55, 55]⟩) (Ev.loadS ty9 SMeterConf.l_name rfl (.g rfl id) (fun w I => isSl_all (hm3.keep0 I.keeps)) (fun _ => by simp only [List.length_append, List.length_cons, List.length_nil]; omega)) (congrArg (fun z => Value.string (SMeterConf.l_name.get z)) (getD_mark l.ms mkMe _ _ (by omega)))) ?_)
  refine cons (opg rfl rfl (Ev.to (v' := .bool true) (Ev.eql_s (.g rfl id) (.c (v := (Go.Value.string (ByteArray.mk #[55, 55, 55]))) rfl)) (rfl)) ?_)
  refine cons (opv (Ev.to (v' := .bool true) (Ev.pickA (.t rfl) (fun {_} h => by cases h; rfl) ⟨_, rfl⟩ (by intro h1 h; first | (rw [h] <;> rfl) | (rw [h1, h] <;> rfl) | (rw [h, h1] <;> rfl) | simp_all) (.c (v := .bool false) rfl)) (rfl)) ?_)
  refine cons (opv (Ev.move (.t rfl)) (cons (opg rfl rfl (Ev.fieldAddr (o := 4) (.t rfl) (by kernel_rfl)) ?_)))
  refine cons (opg rfl rfl (Ev.ldv ty26 (.g rfl id) SConf.l_mirrors) ?_)
  refine cons (opg rfl rfl (Ev.move (.t rfl)) ?_)
  refine cons (opg rfl rfl (Ev.add_i (.g rfl id) (.c (v := I 1) rfl) (fun _ => by first | omega | (rename_i hg; simp at hg; omega))) ?_)
  refine cons (opg rfl rfl (Ev.sliceUpH (n := l.xs.length) (xs := l.xs ++ [mkMi]) Tryz.underlying26 ty59 (.g rfl id) (.g rfl id) (fun w I => hm4.keep0 I.keeps) (fun _ => by simp only [List.length_append, List.length_cons, List.length_nil]; omega)) ?_)
  refine cons (opg rfl rfl (Ev.move (.t rfl)) ?_)
  refine cons (opg rfl rfl (Ev.indexAddr Tryz.underlying26 ty59 (.g rfl id) (.g rfl id) (fun w I => isSl_all (hm4.keep0 I.keeps)) (fun _ => by simp only [List.length_append, List.length_cons, List.length_nil]; omega)) ?_)
  refine cons (opg rfl rfl (Ev.fieldAddrS (o := 1) (i := (l.xs.length : Int)) (.g rfl id) (fun w I => isSl_all (hm4.keep0 I.keeps)) (fun _ => by simp only [List.length_append, List.length_cons, List.length_nil]; omega) (by kernel_rfl)) ?_)
  refine cons (opg rfl rfl (Ev.to (v' := I 777) (Ev.loadS ty3 SMirrorConf.l_out rfl (.g rfl id) (fun w I => isSl_all (hm4.keep0 I.keeps)) (fun _ => by simp only [List.length_append, List.length_cons, List.length_nil]; omega)) (congrArg (fun z => I (SMirrorConf.l_out.get z)) (getD_mark l.xs mkMi _ _ (by omega)))) ?_)
  refine cons (opg rfl rfl (Ev.to (v' := .bool true) (Ev.eql_i (.g rfl id) (.c (v := I 777) rfl)) (rfl)) ?_)
  refine cons (opv (Ev.to (v' := .bool true) (Ev.pickA (.t rfl) (fun {_} h => by cases h; rfl) ⟨_, rfl⟩ (by intro h1 h; first | (rw [h] <;> rfl) | (rw [h1, h] <;> rfl) | (rw [h, h1] <;> rfl) | simp_all) (.c (v := .bool false) rfl)) (rfl)) ?_)
  refine cons (opv (Ev.assign (.t rfl)) (nil (pN (ret (done rfl (.tmp rfl .nil) (retE ?_))))))
  rfl
abbrev OC (x : CB) (l : CL) : Res := Seps (OwnS x.o1.v iE l.ps 3) [OwnS x.o2.v eRoute l.rs 52, OwnS x.o3.v eRule l.us 76, OwnS x.o4.v eMeterConf l.ms 57, OwnS x.o5.v eMirrorConf l.xs 59]
theorem spoil_ok (y : CB) (l : CL) (d : Int) (w : World) (h : At (OC y l) w) (hl : l.Small) : Calls Tryz.prog 18 #[eConf.val (y.c d)] w (RetR w (OC y l) (fun _ : Unit => True) (fun _ => .tuple #[]) (fun _ => Emp)) := by
  obtain ⟨hl0, hl1, hl2, hl3, hl4⟩ := hl
  refine enter (OC y l).foot 100 [OC y l] Tryz.func18 rfl rfl (Nat.le_of_ble_eq_true rfl) (start_at h) ?_
  refine sepsOut Rem.head ?_
  refine seq (region (cons (box (E := eConf) (.t rfl) (fun b1 => ?_))))
  refine nil (pN (seq (seq (region (cons (opv (Ev.assign (.c (v := I 0) rfl)) ?_))))))
  refine nil (pN (block (lp (X := Int × (List Int)) (fun x : Int × (List Int) => (0 ≤ x.1 ∧ x.1 ≤ l.ps.length) ∧ (x.2.length = l.ps.length)) (fun x : Int × (List Int) => [(1, true, .pointer (some ⟨b1, 0, none⟩)), (2, true, I x.1)]) (fun x : Int × (List Int) => [Var b1 eConf (y.c d) 28, OwnS y.o1.v iE x.2 3, OwnS y.o2.v eRoute l.rs 52, OwnS y.o3.v eRule l.us 76, OwnS y.o4.v eMeterConf l.ms 57, OwnS y.o5.v eMirrorConf l.xs 59]) (fun x : Int × (List Int) => ((l.ps.length : Int) - x.1).toNat) (0, l.ps) ⟨?_, ?_⟩ (fun x hx => ?_))))
  · omega
  · rfl
  obtain ⟨i0, y1⟩ := x
  obtain ⟨hi0, hy0⟩ : (0 ≤ i0 ∧ i0 ≤ l.ps.length) ∧ (y1.length = l.ps.length) := hx
  show Sat _ _ [(1, true, .pointer (some ⟨b1, 0, none⟩)), (2, true, I i0)] [Var b1 eConf (y.c d) 28, OwnS y.o1.v iE y1 3, OwnS y.o2.v eRoute l.rs 52, OwnS y.o3.v eRule l.us 76, OwnS y.o4.v eMeterConf l.ms 57, OwnS y.o5.v eMirrorConf l.xs 59]
  refine seq (seq (region (cons (opv (Ev.move (.t rfl)) (cons (opv (Ev.fieldAddr (o := 0) (.t rfl) (by kernel_rfl)) ?_))))))
  refine cons (opv (Ev.to (v' := y.o1.v) (Ev.ldv ty22 (.t rfl) SConf.l_ports) (rfl)) ?_)
  refine cons (opv (Ev.len Tryz.underlying22 (.t rfl) (by first | exact isSl_own (by repeat first | exact mH | apply mT | apply mA) | exact fun w I => IsSl.keep0 (by assumption) I.keeps)) ?_)
  refine cons (opv (Ev.lss_i (.t rfl) (.t rfl)) ?_)
  refine nil (pN ?_)
  first | refine condD rfl (fun h0 => ?_) (fun h0 => ?_) | refine cond rfl (fun h0 => ?_) (fun h0 => ?_)
  · try simp only [nb] at h0
    refine skip (pN (seq (block (region (cons (opv (Ev.fieldAddr (o := 0) (.t rfl) (by kernel_rfl)) ?_))))))
    refine cons (opv (Ev.to (v' := y.o1.v) (Ev.ldv ty22 (.t rfl) SConf.l_ports) (rfl)) ?_)
    refine cons (opv (Ev.move (.t rfl)) (cons (opv (Ev.indexAddr Tryz.underlying22 ty3 (.t rfl) (.t rfl) (by first | exact isSl_own (by repeat first | exact mH | apply mT | apply mA) | exact fun w I => IsSl.keep0 (by assumption) I.keeps) (fun _ => by omega)) ?_)))
    refine cons (storeS0 ty3 (.t rfl) (.c (v := I (-9)) rfl) (by repeat first | exact Upd.head | apply Upd.tail | apply Upd.right) (by omega) ?_)
    refine nil (bN (pN (region (cons (opv (Ev.move (.t rfl)) (cons (opv (Ev.add_i (.t rfl) (.c (v := I 1) rfl) (fun _ => by omega)) ?_)))))))
    refine cons (opv (Ev.assign (.t rfl)) (nil (pN (nx (X := Int × (List Int)) (i0 + 1, _) ⟨?_, ?_⟩ ?_))))
    · try dsimp only
      omega
    · try dsimp only
      rw [List.length_set]; exact hy0
    · try dsimp only
      omega
  · try simp only [nb] at h0
    refine exit (pX (pX (bX (pN (seq (seq (region (cons (opv (Ev.assign (.c (v := I 0) rfl)) ?_)))))))))
    refine nil (pN (block (lp (X := Int × (List SRoute)) (fun x : Int × (List SRoute) => (0 ≤ x.1 ∧ x.1 ≤ l.rs.length) ∧ (x.2.length = l.rs.length)) (fun x : Int × (List SRoute) => [(1, true, .pointer (some ⟨b1, 0, none⟩)), (3, true, I x.1)]) (fun x : Int × (List SRoute) => [Var b1 eConf (y.c d) 28, OwnS y.o1.v iE y1 3, OwnS y.o2.v eRoute x.2 52, OwnS y.o3.v eRule l.us 76, OwnS y.o4.v eMeterConf l.ms 57, OwnS y.o5.v eMirrorConf l.xs 59]) (fun x : Int × (List SRoute) => ((l.rs.length : Int) - x.1).toNat) (0, l.rs) ⟨?_, ?_⟩ (fun x hx => ?_))))
    · omega
    · rfl
    obtain ⟨i1, y2⟩ := x
    obtain ⟨hi1, hy1⟩ : (0 ≤ i1 ∧ i1 ≤ l.rs.length) ∧ (y2.length = l.rs.length) := hx
    show Sat _ _ [(1, true, .pointer (some ⟨b1, 0, none⟩)), (3, true, I i1)] [Var b1 eConf (y.c d) 28, OwnS y.o1.v iE y1 3, OwnS y.o2.v eRoute y2 52, OwnS y.o3.v eRule l.us 76, OwnS y.o4.v eMeterConf l.ms 57, OwnS y.o5.v eMirrorConf l.xs 59]
    refine seq (seq (region (cons (opv (Ev.move (.t rfl)) (cons (opv (Ev.fieldAddr (o := 1) (.t rfl) (by kernel_rfl)) ?_))))))
    refine cons (opv (Ev.to (v' := y.o2.v) (Ev.ldv ty23 (.t rfl) SConf.l_routes) (rfl)) ?_)
    refine cons (opv (Ev.len Tryz.underlying23 (.t rfl) (by first | exact isSl_own (by repeat first | exact mH | apply mT | apply mA) | exact fun w I => IsSl.keep0 (by assumption) I.keeps)) ?_)
    refine cons (opv (Ev.lss_i (.t rfl) (.t rfl)) ?_)
    refine nil (pN ?_)
    first | refine condD rfl (fun h1 => ?_) (fun h1 => ?_) | refine cond rfl (fun h1 => ?_) (fun h1 => ?_)
    · try simp only [nb] at h1
      refine skip (pN (seq (block (region (cons (opv (Ev.fieldAddr (o := 1) (.t rfl) (by kernel_rfl)) ?_))))))
      refine cons (opv (Ev.to (v' := y.o2.v) (Ev.ldv ty23 (.t rfl) SConf.l_routes) (rfl)) ?_)
      refine cons (opv (Ev.move (.t rfl)) (cons (opv (Ev.buildS (fs := _) (places := [(0, 18), (18, 1)]) z52 rfl Tryz.underlying52 (by kernel_rfl) (.cons (.c (v := I (-9)) rfl) .nil) (Fills.cons SRoute.l_out rfl Fills.nil)) ?_)))
      refine cons (opv (Ev.indexAddr Tryz.underlying23 ty52 (.t rfl) (.t rfl) (by first | exact isSl_own (by repeat first | exact mH | apply mT | apply mA) | exact fun w I => IsSl.keep0 (by assumption) I.keeps) (fun _ => by omega)) ?_)
      refine cons (storeS0 ty52 (.t rfl) (.t rfl) (by repeat first | exact Upd.head | apply Upd.tail | apply Upd.right) (by omega) ?_)
      refine nil (bN (pN (region (cons (opv (Ev.move (.t rfl)) (cons (opv (Ev.add_i (.t rfl) (.c (v := I 1) rfl) (fun _ => by omega)) ?_)))))))
      refine cons (opv (Ev.assign (.t rfl)) (nil (pN (nx (X := Int × (List SRoute)) (i1 + 1, _) ⟨?_, ?_⟩ ?_))))
      · try dsimp only
        omega
      · try dsimp only
        rw [List.length_set]; exact hy1
      · try dsimp only
        omega
    · try simp only [nb] at h1
      refine exit (pX (pX (bX (pN (seq (seq (region (cons (opv (Ev.assign (.c (v := I 0) rfl)) ?_)))))))))
      refine nil (pN (block (lp (X := Int × (List SRule)) (fun x : Int × (List SRule) => (0 ≤ x.1 ∧ x.1 ≤ l.us.length) ∧ (x.2.length = l.us.length)) (fun x : Int × (List SRule) => [(1, true, .pointer (some ⟨b1, 0, none⟩)), (4, true, I x.1)]) (fun x : Int × (List SRule) => [Var b1 eConf (y.c d) 28, OwnS y.o1.v iE y1 3, OwnS y.o2.v eRoute y2 52, OwnS y.o3.v eRule x.2 76, OwnS y.o4.v eMeterConf l.ms 57, OwnS y.o5.v eMirrorConf l.xs 59]) (fun x : Int × (List SRule) => ((l.us.length : Int) - x.1).toNat) (0, l.us) ⟨?_, ?_⟩ (fun x hx => ?_))))
      · omega
      · rfl
      obtain ⟨i2, y3⟩ := x
      obtain ⟨hi2, hy2⟩ : (0 ≤ i2 ∧ i2 ≤ l.us.length) ∧ (y3.length = l.us.length) := hx
      show Sat _ _ [(1, true, .pointer (some ⟨b1, 0, none⟩)), (4, true, I i2)] [Var b1 eConf (y.c d) 28, OwnS y.o1.v iE y1 3, OwnS y.o2.v eRoute y2 52, OwnS y.o3.v eRule y3 76, OwnS y.o4.v eMeterConf l.ms 57, OwnS y.o5.v eMirrorConf l.xs 59]
      refine seq (seq (region (cons (opv (Ev.move (.t rfl)) (cons (opv (Ev.fieldAddr (o := 2) (.t rfl) (by kernel_rfl)) ?_))))))
      refine cons (opv (Ev.to (v' := y.o3.v) (Ev.ldv ty24 (.t rfl) SConf.l_rules) (rfl)) ?_)
      refine cons (opv (Ev.len Tryz.underlying24 (.t rfl) (by first | exact isSl_own (by repeat first | exact mH | apply mT | apply mA) | exact fun w I => IsSl.keep0 (by assumption) I.keeps)) ?_)
      refine cons (opv (Ev.lss_i (.t rfl) (.t rfl)) ?_)
      refine nil (pN ?_)
      first | refine condD rfl (fun h2 => ?_) (fun h2 => ?_) | refine cond rfl (fun h2 => ?_) (fun h2 => ?_)
      · try simp only [nb] at h2
        refine skip (pN (seq (block (region (cons (opv (Ev.fieldAddr (o := 2) (.t rfl) (by kernel_rfl)) ?_))))))
        refine cons (opv (Ev.to (v' := y.o3.v) (Ev.ldv ty24 (.t rfl) SConf.l_rules) (rfl)) ?_)
        refine cons (opv (Ev.move (.t rfl)) (cons (opv (Ev.buildS (fs := _) (places := [(0, 1), (1, 44), (45, 1), (46, 1), (47, 1), (48, 1)]) z76 rfl Tryz.underlying76 (by kernel_rfl) (.cons (.c (v := I (-9)) rfl) .nil) (Fills.cons SRule.l_out rfl Fills.nil)) ?_)))
        refine cons (opv (Ev.indexAddr Tryz.underlying24 ty76 (.t rfl) (.t rfl) (by first | exact isSl_own (by repeat first | exact mH | apply mT | apply mA) | exact fun w I => IsSl.keep0 (by assumption) I.keeps) (fun _ => by omega)) ?_)
        refine cons (storeS0 ty76 (.t rfl) (.t rfl) (by repeat first | exact Upd.head | apply Upd.tail | apply Upd.right) (by omega) ?_)
        refine nil (bN (pN (region (cons (opv (Ev.move (.t rfl)) (cons (opv (Ev.add_i (.t rfl) (.c (v := I 1) rfl) (fun _ => by omega)) ?_)))))))
        refine cons (opv (Ev.assign (.t rfl)) (nil (pN (nx (X := Int × (List SRule)) (i2 + 1, _) ⟨?_, ?_⟩ ?_))))
        · try dsimp only
          omega
        · try dsimp only
          rw [List.length_set]; exact hy2
        · try dsimp only
          omega
      · try simp only [nb] at h2
        refine exit (pX (pX (bX (pN (seq (seq (region (cons (opv (Ev.assign (.c (v := I 0) rfl)) ?_)))))))))
        refine nil (pN (block (lp (X := Int × (List SMeterConf)) (fun x : Int × (List SMeterConf) => (0 ≤ x.1 ∧ x.1 ≤ l.ms.length) ∧ (x.2.length = l.ms.length)) (fun x : Int × (List SMeterConf) => [(1, true, .pointer (some ⟨b1, 0, none⟩)), (5, true, I x.1)]) (fun x : Int × (List SMeterConf) => [Var b1 eConf (y.c d) 28, OwnS y.o1.v iE y1 3, OwnS y.o2.v eRoute y2 52, OwnS y.o3.v eRule y3 76, OwnS y.o4.v eMeterConf x.2 57, OwnS y.o5.v eMirrorConf l.xs 59]) (fun x : Int × (List SMeterConf) => ((l.ms.length : Int) - x.1).toNat) (0, l.ms) ⟨?_, ?_⟩ (fun x hx => ?_))))
        · omega
        · rfl
        obtain ⟨i3, y4⟩ := x
        obtain ⟨hi3, hy3⟩ : (0 ≤ i3 ∧ i3 ≤ l.ms.length) ∧ (y4.length = l.ms.length) := hx
        show Sat _ _ [(1, true, .pointer (some ⟨b1, 0, none⟩)), (5, true, I i3)] [Var b1 eConf (y.c d) 28, OwnS y.o1.v iE y1 3, OwnS y.o2.v eRoute y2 52, OwnS y.o3.v eRule y3 76, OwnS y.o4.v eMeterConf y4 57, OwnS y.o5.v eMirrorConf l.xs 59]
        refine seq (seq (region (cons (opv (Ev.move (.t rfl)) (cons (opv (Ev.fieldAddr (o := 3) (.t rfl) (by kernel_rfl)) ?_))))))
        refine cons (opv (Ev.to (v' := y.o4.v) (Ev.ldv ty25 (.t rfl) SConf.l_meters) (rfl)) ?_)
        refine cons (opv (Ev.len Tryz.underlying25 (.t rfl) (by first | exact isSl_own (by repeat first | exact mH | apply mT | apply mA) | exact fun w I => IsSl.keep0 (by assumption) I.keeps)) ?_)
        refine cons (opv (Ev.lss_i (.t rfl) (.t rfl)) ?_)
        refine nil (pN ?_)
        first | refine condD rfl (fun h3 => ?_) (fun h3 => ?_) | refine cond rfl (fun h3 => ?_) (fun h3 => ?_)
        · try simp only [nb] at h3
          refine skip (pN (seq (block (region (cons (opv (Ev.fieldAddr (o := 3) (.t rfl) (by kernel_rfl)) ?_))))))
          refine cons (opv (Ev.to (v' := y.o4.v) (Ev.ldv ty25 (.t rfl) SConf.l_meters) (rfl)) ?_)
          refine cons (opv (Ev.move (.t rfl)) (cons (opv (Ev.buildS (fs := _) (places := [(0, 1), (1, 3)]) z57 rfl Tryz.underlying57 (by kernel_rfl) (.cons (.c (v := (Go.Value.string (ByteArray.mk #[45, 57]))) rfl) .nil) (Fills.cons SMeterConf.l_name rfl Fills.nil)) ?_)))
          refine cons (opv (Ev.indexAddr Tryz.underlying25 ty57 (.t rfl) (.t rfl) (by first | exact isSl_own (by repeat first | exact mH | apply mT | apply mA) | exact fun w I => IsSl.keep0 (by assumption) I.keeps) (fun _ => by omega)) ?_)
          refine cons (storeS0 ty57 (.t rfl) (.t rfl) (by repeat first | exact Upd.head | apply Upd.tail | apply Upd.right) (by omega) ?_)
          refine nil (bN (pN (region (cons (opv (Ev.move (.t rfl)) (cons (opv (Ev.add_i (.t rfl) (.c (v := I 1) rfl) (fun _ => by omega)) ?_)))))))
          refine cons (opv (Ev.assign (.t rfl)) (nil (pN (nx (X := Int × (List SMeterConf)) (i3 + 1, _) ⟨?_, ?_⟩ ?_))))
          · try dsimp only
            omega
          · try dsimp only
            rw [List.length_set]; exact hy3
          · try dsimp only
            omega
        · try simp only [nb] at h3
          refine exit (pX (pX (bX (pN (seq (seq (region (cons (opv (Ev.assign (.c (v := I 0) rfl)) ?_)))))))))
          refine nil (pN (block (lp (X := Int × (List SMirrorConf)) (fun x : Int × (List SMirrorConf) => (0 ≤ x.1 ∧ x.1 ≤ l.xs.length) ∧ (x.2.length = l.xs.length)) (fun x : Int × (List SMirrorConf) => [(1, true, .pointer (some ⟨b1, 0, none⟩)), (6, true, I x.1)]) (fun x : Int × (List SMirrorConf) => [Var b1 eConf (y.c d) 28, OwnS y.o1.v iE y1 3, OwnS y.o2.v eRoute y2 52, OwnS y.o3.v eRule y3 76, OwnS y.o4.v eMeterConf y4 57, OwnS y.o5.v eMirrorConf x.2 59]) (fun x : Int × (List SMirrorConf) => ((l.xs.length : Int) - x.1).toNat) (0, l.xs) ⟨?_, ?_⟩ (fun x hx => ?_))))
          · omega
          · rfl
          obtain ⟨i4, y5⟩ := x
          obtain ⟨hi4, hy4⟩ : (0 ≤ i4 ∧ i4 ≤ l.xs.length) ∧ (y5.length = l.xs.length) := hx
          show Sat _ _ [(1, true, .pointer (some ⟨b1, 0, none⟩)), (6, true, I i4)] [Var b1 eConf (y.c d) 28, OwnS y.o1.v iE y1 3, OwnS y.o2.v eRoute y2 52, OwnS y.o3.v eRule y3 76, OwnS y.o4.v eMeterConf y4 57, OwnS y.o5.v eMirrorConf y5 59]
          refine seq (seq (region (cons (opv (Ev.move (.t rfl)) (cons (opv (Ev.fieldAddr (o := 4) (.t rfl) (by kernel_rfl)) ?_))))))
          refine cons (opv (Ev.to (v' := y.o5.v) (Ev.ldv ty26 (.t rfl) SConf.l_mirrors) (rfl)) ?_)
          refine cons (opv (Ev.len Tryz.underlying26 (.t rfl) (by first | exact isSl_own (by repeat first | exact mH | apply mT | apply mA) | exact fun w I => IsSl.keep0 (by assumption) I.keeps)) ?_)
          refine cons (opv (Ev.lss_i (.t rfl) (.t rfl)) ?_)
          refine nil (pN ?_)
          first | refine condD rfl (fun h4 => ?_) (fun h4 => ?_) | refine cond rfl (fun h4 => ?_) (fun h4 => ?_)
          · try simp only [nb] at h4
            refine skip (pN (seq (block (region (cons (opv (Ev.fieldAddr (o := 4) (.t rfl) (by kernel_rfl)) ?_))))))
            refine cons (opv (Ev.to (v' := y.o5.v) (Ev.ldv ty26 (.t rfl) SConf.l_mirrors) (rfl)) ?_)
            refine cons (opv (Ev.move (.t rfl)) (cons (opv (Ev.buildS (fs := _) (places := [(0, 1), (1, 1), (2, 1)]) z59 rfl Tryz.underlying59 (by kernel_rfl) (.cons (.c (v := I (-9)) rfl) .nil) (Fills.cons SMirrorConf.l_out rfl Fills.nil)) ?_)))
            refine cons (opv (Ev.indexAddr Tryz.underlying26 ty59 (.t rfl) (.t rfl) (by first | exact isSl_own (by repeat first | exact mH | apply mT | apply mA) | exact fun w I => IsSl.keep0 (by assumption) I.keeps) (fun _ => by omega)) ?_)
            refine cons (storeS0 ty59 (.t rfl) (.t rfl) (by repeat first | exact Upd.head | apply Upd.tail | apply Upd.right) (by omega) ?_)
            refine nil (bN (pN (region (cons (opv (Ev.move (.t rfl)) (cons (opv (Ev.add_i (.t rfl) (.c (v := I 1) rfl) (fun _ => by omega)) ?_)))))))
            refine cons (opv (Ev.assign (.t rfl)) (nil (pN (nx (X := Int × (List SMirrorConf)) (i4 + 1, _) ⟨?_, ?_⟩ ?_))))
            · try dsimp only
              omega
            · try dsimp only
              rw [List.length_set]; exact hy4
            · try dsimp only
              omega
          · try simp only [nb] at h4
            refine exit (pX (pX (bX (pN (seq (region (cons (opv (Ev.assign (.c (v := I 0) rfl)) ?_))))))))
            refine nil (pN (block (lp (X := Int × OV × OV × OV × OV × OV × (List Int) × (List SRoute) × (List SRule) × (List SMeterConf) × (List SMirrorConf)) (fun x : Int × OV × OV × OV × OV × OV × (List Int) × (List SRoute) × (List SRule) × (List SMeterConf) × (List SMirrorConf) => (0 ≤ x.1 ∧ x.1 ≤ 9) ∧ ((x.2.2.2.2.2.2.1.length : Int) = l.ps.length + x.1) ∧ ((x.2.2.2.2.2.2.2.1.length : Int) = l.rs.length + x.1) ∧ ((x.2.2.2.2.2.2.2.2.1.length : Int) = l.us.length + x.1) ∧ ((x.2.2.2.2.2.2.2.2.2.1.length : Int) = l.ms.length + x.1) ∧ ((x.2.2.2.2.2.2.2.2.2.2.length : Int) = l.xs.length + x.1)) (fun x : Int × OV × OV × OV × OV × OV × (List Int) × (List SRoute) × (List SRule) × (List SMeterConf) × (List SMirrorConf) => [(1, true, .pointer (some ⟨b1, 0, none⟩)), (7, true, I x.1)]) (fun x : Int × OV × OV × OV × OV × OV × (List Int) × (List SRoute) × (List SRule) × (List SMeterConf) × (List SMirrorConf) => [Var b1 eConf (⟨x.2.1, x.2.2.1, x.2.2.2.1, x.2.2.2.2.1, x.2.2.2.2.2.1, d⟩ : SConf) 28, OwnS x.2.1.v iE x.2.2.2.2.2.2.1 3, OwnS x.2.2.1.v eRoute x.2.2.2.2.2.2.2.1 52, OwnS x.2.2.2.1.v eRule x.2.2.2.2.2.2.2.2.1 76, OwnS x.2.2.2.2.1.v eMeterConf x.2.2.2.2.2.2.2.2.2.1 57, OwnS x.2.2.2.2.2.1.v eMirrorConf x.2.2.2.2.2.2.2.2.2.2 59]) (fun x : Int × OV × OV × OV × OV × OV × (List Int) × (List SRoute) × (List SRule) × (List SMeterConf) × (List SMirrorConf) => (9 - x.1).toNat) (0, y.o1, y.o2, y.o3, y.o4, y.o5, y1, y2, y3, y4, y5) ⟨?_, ?_, ?_, ?_, ?_, ?_⟩ (fun x hx => ?_))))
            · omega
            · dsimp only; omega
            · dsimp only; omega
            · dsimp only; omega
            · dsimp only; omega
            · dsimp only; omega
            obtain ⟨k, p1, p2, p3, p4, p5, q1, q2, q3, q4, q5⟩ := x
            obtain ⟨hk, hz0, hz1, hz2, hz3, hz4⟩ : (0 ≤ k ∧ k ≤ 9) ∧ ((q1.length : Int) = l.ps.length + k) ∧ ((q2.length : Int) = l.rs.length + k) ∧ ((q3.length : Int) = l.us.length + k) ∧ ((q4.length : Int) = l.ms.length + k) ∧ ((q5.length : Int) = l.xs.length + k) := hx
            show Sat _ _ [(1, true, .pointer (some ⟨b1, 0, none⟩)), (7, true, I k)] [Var b1 eConf (⟨p1, p2, p3, p4, p5, d⟩ : SConf) 28, OwnS p1.v iE q1 3, OwnS p2.v eRoute q2 52, OwnS p3.v eRule q3 76, OwnS p4.v eMeterConf q4 57, OwnS p5.v eMirrorConf q5 59]
            refine seq (seq (region (cons (opv (Ev.move (.t rfl)) (cons (opv (Ev.lss_i (.t rfl) (.c (v := I 9) rfl)) ?_))))))
            refine nil (pN ?_)
            first | refine condD rfl (fun h5 => ?_) (fun h5 => ?_) | refine cond rfl (fun h5 => ?_) (fun h5 => ?_)
            · try simp only [nb] at h5
              refine skip (pN (seq (block (seq (region (cons (opv (Ev.fieldAddr (o := 0) (.t rfl) (by kernel_rfl)) ?_)))))))
              refine cons (opv (Ev.to (v' := p1.v) (Ev.ldv ty22 (.t rfl) SConf.l_ports) (rfl)) ?_)
              refine cons (buildSlice (E := iE) Tryz.underlying22 ty3 z3 (.cons (.c (v := I (-8)) rfl) .nil) rfl rfl (fun v2 => ?_))
              refine cons (app (E := iE) Tryz.underlying22 ty3 zb3 zs3 (.t rfl) (.t rfl) (fun v3 => ?_) (hby := ⟨by (show _ ≤ 9223372036854775807); simp only [List.length_cons, List.length_nil]; omega, by simp only [List.length_cons, List.length_nil]; omega⟩))
              refine cons (opv (Ev.fieldAddr (o := 0) (.t rfl) (by kernel_rfl)) ?_)
              refine cons (stv ty22 SConf.l_ports (.t rfl) (.t rfl) ?_)
              refine nil (pN (seq (region (cons (opv (Ev.fieldAddr (o := 1) (.t rfl) (by kernel_rfl)) ?_)))))
              refine cons (opv (Ev.to (v' := p2.v) (Ev.ldv ty23 (.t rfl) SConf.l_routes) (rfl)) ?_)
              refine cons (opv (Ev.buildS (fs := _) (places := [(0, 18), (18, 1)]) z52 rfl Tryz.underlying52 (by kernel_rfl) (.cons (.c (v := I (-8)) rfl) .nil) (Fills.cons SRoute.l_out rfl Fills.nil)) ?_)
              refine cons (buildSlice (E := eRoute) Tryz.underlying23 ty52 z52 (.cons (.t rfl) .nil) rfl rfl (fun v4 => ?_))
              refine cons (app (E := eRoute) Tryz.underlying23 ty52 zb52 zs52 (.t rfl) (.t rfl) (fun v5 => ?_) (hby := ⟨by (show _ ≤ 9223372036854775807); simp only [List.length_cons, List.length_nil]; omega, by simp only [List.length_cons, List.length_nil]; omega⟩))
              refine cons (opv (Ev.fieldAddr (o := 1) (.t rfl) (by kernel_rfl)) ?_)
              refine cons (stv ty23 SConf.l_routes (.t rfl) (.t rfl) ?_)
              refine nil (pN (seq (region (cons (opv (Ev.fieldAddr (o := 2) (.t rfl) (by kernel_rfl)) ?_)))))
              refine cons (opv (Ev.to (v' := p3.v) (Ev.ldv ty24 (.t rfl) SConf.l_rules) (rfl)) ?_)
              refine cons (opv (Ev.buildS (fs := _) (places := [(0, 1), (1, 44), (45, 1), (46, 1), (47, 1), (48, 1)]) z76 rfl Tryz.underlying76 (by kernel_rfl) (.cons (.c (v := I (-8)) rfl) .nil) (Fills.cons SRule.l_out rfl Fills.nil)) ?_)
              refine cons (buildSlice (E := eRule) Tryz.underlying24 ty76 z76 (.cons (.t rfl) .nil) rfl rfl (fun v6 => ?_))
              refine cons (app (E := eRule) Tryz.underlying24 ty76 zb76 zs76 (.t rfl) (.t rfl) (fun v7 => ?_) (hby := ⟨by (show _ ≤ 9223372036854775807); simp only [List.length_cons, List.length_nil]; omega, by simp only [List.length_cons, List.length_nil]; omega⟩))
              refine cons (opv (Ev.fieldAddr (o := 2) (.t rfl) (by kernel_rfl)) ?_)
              refine cons (stv ty24 SConf.l_rules (.t rfl) (.t rfl) ?_)
              refine nil (pN (seq (region (cons (opv (Ev.fieldAddr (o := 3) (.t rfl) (by kernel_rfl)) ?_)))))
              refine cons (opv (Ev.to (v' := p4.v) (Ev.ldv ty25 (.t rfl) SConf.l_meters) (rfl)) ?_)
              refine cons (opv (Ev.buildS (fs := _) (places := [(0, 1), (1, 3)]) z57 rfl Tryz.underlying57 (by kernel_rfl) (.cons (.c (v := (Go.Value.string (ByteArray.mk #[45, 56]))) rfl) .nil) (Fills.cons SMeterConf.l_name rfl Fills.nil)) ?_)
              refine cons (buildSlice (E := eMeterConf) Tryz.underlying25 ty57 z57 (.cons (.t rfl) .nil) rfl rfl (fun v8 => ?_))
              refine cons (app (E := eMeterConf) Tryz.underlying25 ty57 zb57 zs57 (.t rfl) (.t rfl) (fun v9 => ?_) (hby := ⟨by (show _ ≤ 9223372036854775807); simp only [List.length_cons, List.length_nil]; omega, by simp only [List.length_cons, List.length_nil]; omega⟩))
              refine cons (opv (Ev.fieldAddr (o := 3) (.t rfl) (by kernel_rfl)) ?_)
              refine cons (stv ty25 SConf.l_meters (.t rfl) (.t rfl) ?_)
              refine nil (pN (region (cons (opv (Ev.fieldAddr (o := 4) (.t rfl) (by kernel_rfl)) ?_))))
              refine cons (opv (Ev.to (v' := p5.v) (Ev.ldv ty26 (.t rfl) SConf.l_mirrors) (rfl)) ?_)
              refine cons (opv (Ev.buildS (fs := _) (places := [(0, 1), (1, 1), (2, 1)]) z59 rfl Tryz.underlying59 (by kernel_rfl) (.cons (.c (v := I (-8)) rfl) .nil) (Fills.cons SMirrorConf.l_out rfl Fills.nil)) ?_)
              refine cons (buildSlice (E := eMirrorConf) Tryz.underlying26 ty59 z59 (.cons (.t rfl) .nil) rfl rfl (fun v10 => ?_))
              refine cons (app (E := eMirrorConf) Tryz.underlying26 ty59 zb59 zs59 (.t rfl) (.t rfl) (fun v11 => ?_) (hby := ⟨by (show _ ≤ 9223372036854775807); simp only [List.length_cons, List.length_nil]; omega, by simp only [List.length_cons, List.length_nil]; omega⟩))
              refine cons (opv (Ev.fieldAddr (o := 4) (.t rfl) (by kernel_rfl)) ?_)
              refine cons (stv ty26 SConf.l_mirrors (.t rfl) (.t rfl) ?_)
              refine nil (bN (pN (region (cons (opv (Ev.move (.t rfl)) (cons (opv (Ev.add_i (.t rfl) (.c (v := I 1) rfl) (fun _ => by omega)) ?_)))))))
              refine cons (opv (Ev.assign (.t rfl)) (nil (pN (nxP (X := Int × OV × OV × OV × OV × OV × (List Int) × (List SRoute) × (List SRule) × (List SMeterConf) × (List SMirrorConf)) (k + 1, _, _, _, _, _, _, _, _, _, _) ⟨?_, ?_, ?_, ?_, ?_, ?_⟩ ?_))))
              · try dsimp only
                omega
              · try dsimp only
                simp only [List.length_append, List.length_cons, List.length_nil]; omega
              · try dsimp only
                simp only [List.length_append, List.length_cons, List.length_nil]; omega
              · try dsimp only
                simp only [List.length_append, List.length_cons, List.length_nil]; omega
              · try dsimp only
                simp only [List.length_append, List.length_cons, List.length_nil]; omega
              · try dsimp only
                simp only [List.length_append, List.length_cons, List.length_nil]; omega
              · try dsimp only
                omega
            · try simp only [nb] at h5
              refine exit (pX (pX (bX (done' rfl .nil (fun w I => ?_)))))
              exact retD (n := 100) rfl w I
theorem put_mem {α β : Type} {q : α → α → Bool} (k : α) (v : β) : ∀ (l : List (α × β)) (p : α × β), p ∈ putL q k v l → p.1 = k ∨ ∃ p' ∈ l, p'.1 = p.1
  | [], p, h => by
    unfold putL at h
    exact .inl (by rw [List.mem_singleton.1 h])
  | e :: l, p, h => by
    unfold putL at h
    split at h
    · rcases List.mem_cons.1 h with rfl | h
      · exact .inl rfl
      · exact .inr ⟨p, List.mem_cons_of_mem _ h, rfl⟩
    · rcases List.mem_cons.1 h with rfl | h
      · exact .inr ⟨p, List.mem_cons_self, rfl⟩
      · rcases put_mem k v l p h with h | ⟨p', h1, h2⟩
        · exact .inl h
        · exact .inr ⟨p', List.mem_cons_of_mem _ h1, h2⟩
def Uniq {α β : Type} (q : α → α → Bool) (l : List (α × β)) : Prop := l.Pairwise (fun a b => q a.1 b.1 = false)
theorem put_uniq {α β : Type} {q : α → α → Bool} (hi : ∀ x y, q x y = true ↔ x = y) (k : α) (v : β) : ∀ l : List (α × β), Uniq q l → Uniq q (putL q k v l)
  | [], _ => by
    unfold putL Uniq
    exact List.pairwise_singleton _ _
  | e :: l, h => by
    obtain ⟨h1, h2⟩ := List.pairwise_cons.1 h
    unfold putL
    split
    · rename_i hq
      have e2 := (hi _ _).1 hq
      exact List.pairwise_cons.2 ⟨fun b hb => by show q k b.1 = false; rw [e2]; exact h1 b hb, h2⟩
    · rename_i hq
      refine List.pairwise_cons.2 ⟨fun b hb => ?_, put_uniq hi k v l h2⟩
      rcases put_mem k v l b hb with h3 | ⟨p', h3, h4⟩
      · rw [h3, Bool.eq_false_iff]
        intro h5
        exact hq ((hi _ _).2 ((hi _ _).1 h5).symm)
      · rw [← h4]
        exact h1 p' h3
theorem find_uniq {α β : Type} {q : α → α → Bool} (hi : ∀ x y, q x y = true ↔ x = y) : ∀ (l : List (α × β)), Uniq q l → ∀ p ∈ l, findV q p.1 l = some p.2
  | [], _, p, hp => by cases hp
  | e :: l, h, p, hp => by
    obtain ⟨h1, h2⟩ := List.pairwise_cons.1 h
    rw [findV_cons]
    rcases List.mem_cons.1 hp with rfl | hp
    · rw [if_pos ((hi _ _).2 rfl)]
    · have hn : ¬ q p.1 e.1 = true := fun h3 => by
        have := h1 p hp
        rw [(hi _ _).2 ((hi _ _).1 h3).symm] at this
        cases this
      rw [if_neg hn]
      exact find_uniq hi l h2 p hp
theorem find_mem {α β : Type} {q : α → α → Bool} {k : α} {v : β} : ∀ (l : List (α × β)), findV q k l = some v → ∃ p ∈ l, p.2 = v
  | [], h => by cases h
  | e :: l, h => by
    rw [findV_cons] at h
    split at h
    · exact ⟨e, List.mem_cons_self, Option.some.inj h⟩
    · obtain ⟨p, h1, h2⟩ := find_mem l h
      exact ⟨p, List.mem_cons_of_mem _ h1, h2⟩
theorem inc_uniq {α : Type} {q : α → α → Bool} (hi : ∀ x y, q x y = true ↔ x = y) (d : Int) (l : List α) {m : List (α × Int)} (hm : Uniq q m) : ∀ n, Uniq q (incN q d l m n)
  | 0 => hm
  | n + 1 => by
    unfold incN
    split
    · exact inc_uniq hi d l hm n
    · exact put_uniq hi _ _ _ (inc_uniq hi d l hm n)
theorem alike_val {α : Type} {q : α → α → Bool} (hi : ∀ x y, q x y = true ↔ x = y) (l k : List α) (x : α) : (findV q x (alikeM q l k)).getD 0 = (l.countP (q x) : Int) - k.countP (q x) := by
  unfold alikeM
  rw [incN_val hi, incN_val hi, List.take_length, List.take_length]
  have e0 : (findV q x ([] : List (α × Int))).getD 0 = 0 := rfl
  rw [e0]
  omega
theorem alike_iff {α : Type} {q : α → α → Bool} (hi : ∀ x y, q x y = true ↔ x = y) (l k : List α) : alikeB q l k = true ↔ ∀ x, l.countP (q x) = k.countP (q x) := by
  have hu : Uniq q (alikeM q l k) := by
    unfold alikeM
    exact inc_uniq hi _ _ (inc_uniq hi _ _ List.Pairwise.nil _) _
  unfold alikeB
  rw [List.all_eq_true]
  constructor
  · intro h x
    have hv := alike_val hi l k x
    cases hf : findV q x (alikeM q l k) with
    | none => rw [hf] at hv; simp only [Option.getD_none] at hv; omega
    | some v =>
      obtain ⟨p, hp, e⟩ := find_mem _ hf
      have := of_decide_eq_true (h p hp)
      rw [hf] at hv
      simp only [Option.getD_some] at hv
      omega
  · intro h p hp
    have hv := alike_val hi l k p.1
    rw [find_uniq hi _ hu p hp, h p.1] at hv
    simp only [Option.getD_some] at hv
    exact decide_eq_true (by omega)
theorem perm_counts {α : Type} [DecidableEq α] : ∀ (l k : List α), l.length = k.length → (∀ x ∈ l, l.count x = k.count x) → l.Perm k
  | [], k, h, _ => by
    have : k = [] := List.length_eq_zero_iff.1 h.symm
    rw [this]
  | x :: l, k, h, hc => by
    have hx := hc x List.mem_cons_self
    rw [List.count_cons_self] at hx
    have hm : x ∈ k := List.count_pos_iff.1 (by omega)
    have hp := List.perm_cons_erase hm
    refine List.Perm.trans ?_ hp.symm
    refine List.Perm.cons x (perm_counts l (k.erase x) ?_ fun y hy => ?_)
    · rw [List.length_erase_of_mem hm]
      simp only [List.length_cons] at h
      omega
    · have h1 := hc y (List.mem_cons_of_mem _ hy)
      have h2 := hp.count_eq y
      rw [h1.symm, List.count_cons, List.count_cons] at h2
      omega
theorem count_q {α : Type} [DecidableEq α] {q : α → α → Bool} (hi : ∀ x y, q x y = true ↔ x = y) (l : List α) (x : α) : l.countP (q x) = l.count x := by
  unfold List.count
  refine List.countP_congr fun y _ => ?_
  rw [hi, beq_iff_eq]
  exact eq_comm
theorem alike_perm {α : Type} [DecidableEq α] {q : α → α → Bool} (hi : ∀ x y, q x y = true ↔ x = y) (l k : List α) : alikeB q l k = true ↔ l.Perm k := by
  rw [alike_iff hi, List.perm_iff_count]
  constructor
  · intro h x
    rw [← count_q hi, ← count_q hi]
    exact h x
  · intro h x
    rw [count_q hi, count_q hi]
    exact h x
def alikeR {α : Type} (q : α → α → Bool) (l k : List α) : Bool := decide (l.length = k.length) && l.all (fun x => decide (l.countP (q x) = k.countP (q x)))
theorem alikeR_eq {α : Type} [DecidableEq α] {q : α → α → Bool} (hi : ∀ x y, q x y = true ↔ x = y) (l k : List α) : alikeR q l k = alikeB q l k := by
  rw [Bool.eq_iff_iff, alike_perm hi]
  unfold alikeR
  rw [Bool.and_eq_true, decide_eq_true_iff, List.all_eq_true]
  constructor
  · rintro ⟨h1, h2⟩
    refine perm_counts l k h1 fun x hx => ?_
    have := of_decide_eq_true (h2 x hx)
    rwa [count_q hi, count_q hi] at this
  · intro h
    exact ⟨h.length_eq, fun x _ => decide_eq_true (h.countP_eq _)⟩
theorem rcopy_ok (c : SConf) (l : CL) (w : World) (hc : ConfAt w c l) (hs : l.Small) : Calls Tryz.prog 11 #[eConf.val c] w (RetN w (fun _ : CB => True) (fun x => eConf.val (x.c c.default)) (fun x => x.R l)) := by
  obtain ⟨hl0, hl1, hl2, hl3, hl4⟩ := hs
  refine enter0 38 Tryz.func11 rfl rfl (Nat.le_of_ble_eq_true rfl) ?_
  refine seq (region (cons (box (E := eConf) (.t rfl) (fun b1 => ?_))))
  refine cons (alloc z28 (fun b2 => ?_))
  refine nil (pN (seq (region (cons (opv (Ev.fieldAddr (o := 5) (.t rfl) (by kernel_rfl)) ?_)))))
  refine cons (opv (Ev.ldx c.default ty3 (.t rfl) SConf.l_default) ?_)
  refine cons (opv (Ev.buildS (fs := _) (places := [(0, 1), (1, 1), (2, 1), (3, 1), (4, 1), (5, 1)]) z28 rfl Tryz.underlying28 (by kernel_rfl) (.cons (.t rfl) .nil) (Fills.cons SConf.l_default rfl Fills.nil)) ?_)
  refine cons (alloc z28 (fun b3 => ?_))
  refine cons (stv ty28 (Lens.id _) (.t rfl) (.t rfl) ?_)
  refine nil (pN (seq (takeNil iE 3 ?_)))
  refine region (cons (opv (Ev.fieldAddr (o := 0) (.t rfl) (by kernel_rfl)) ?_))
  refine cons (opv (Ev.ldv ty22 (.t rfl) SConf.l_ports) ?_)
  refine cons (opv (Ev.fieldAddr (o := 0) (.t rfl) (by kernel_rfl)) ?_)
  refine cons (opv (Ev.ldx c.ports ty22 (.t rfl) SConf.l_ports) ?_)
  refine cons (app (E := iE) Tryz.underlying22 ty3 zb3 zs3 (.t rfl) (.t rfl) (fun v4 => ?_) (hsrc := (fun w I => (hc.keep0 I.keeps).ps)) (hby := ⟨by (show _ ≤ 9223372036854775807); simp only [List.length_nil]; omega, by simp only [List.length_nil]; omega⟩))
  refine cons (opv (Ev.fieldAddr (o := 0) (.t rfl) (by kernel_rfl)) ?_)
  refine cons (stv ty22 SConf.l_ports (.t rfl) (.t rfl) ?_)
  refine nil (pN (seq (takeNil eRoute 52 ?_)))
  refine region (cons (opv (Ev.fieldAddr (o := 1) (.t rfl) (by kernel_rfl)) ?_))
  refine cons (opv (Ev.ldv ty23 (.t rfl) SConf.l_routes) ?_)
  refine cons (opv (Ev.fieldAddr (o := 1) (.t rfl) (by kernel_rfl)) ?_)
  refine cons (opv (Ev.ldx c.routes ty23 (.t rfl) SConf.l_routes) ?_)
  refine cons (app (E := eRoute) Tryz.underlying23 ty52 zb52 zs52 (.t rfl) (.t rfl) (fun v5 => ?_) (hsrc := (fun w I => (hc.keep0 I.keeps).rs)) (hby := ⟨by (show _ ≤ 9223372036854775807); simp only [List.length_nil]; omega, by simp only [List.length_nil]; omega⟩))
  refine cons (opv (Ev.fieldAddr (o := 1) (.t rfl) (by kernel_rfl)) ?_)
  refine cons (stv ty23 SConf.l_routes (.t rfl) (.t rfl) ?_)
  refine nil (pN (seq (takeNil eRule 76 ?_)))
  refine region (cons (opv (Ev.fieldAddr (o := 2) (.t rfl) (by kernel_rfl)) ?_))
  refine cons (opv (Ev.ldv ty24 (.t rfl) SConf.l_rules) ?_)
  refine cons (opv (Ev.fieldAddr (o := 2) (.t rfl) (by kernel_rfl)) ?_)
  refine cons (opv (Ev.ldx c.rules ty24 (.t rfl) SConf.l_rules) ?_)
  refine cons (app (E := eRule) Tryz.underlying24 ty76 zb76 zs76 (.t rfl) (.t rfl) (fun v6 => ?_) (hsrc := (fun w I => (hc.keep0 I.keeps).us)) (hby := ⟨by (show _ ≤ 9223372036854775807); simp only [List.length_nil]; omega, by simp only [List.length_nil]; omega⟩))
  refine cons (opv (Ev.fieldAddr (o := 2) (.t rfl) (by kernel_rfl)) ?_)
  refine cons (stv ty24 SConf.l_rules (.t rfl) (.t rfl) ?_)
  refine nil (pN (seq (takeNil eMeterConf 57 ?_)))
  refine region (cons (opv (Ev.fieldAddr (o := 3) (.t rfl) (by kernel_rfl)) ?_))
  refine cons (opv (Ev.ldv ty25 (.t rfl) SConf.l_meters) ?_)
  refine cons (opv (Ev.fieldAddr (o := 3) (.t rfl) (by kernel_rfl)) ?_)
  refine cons (opv (Ev.ldx c.meters ty25 (.t rfl) SConf.l_meters) ?_)
  refine cons (app (E := eMeterConf) Tryz.underlying25 ty57 zb57 zs57 (.t rfl) (.t rfl) (fun v7 => ?_) (hsrc := (fun w I => (hc.keep0 I.keeps).ms)) (hby := ⟨by (show _ ≤ 9223372036854775807); simp only [List.length_nil]; omega, by simp only [List.length_nil]; omega⟩))
  refine cons (opv (Ev.fieldAddr (o := 3) (.t rfl) (by kernel_rfl)) ?_)
  refine cons (stv ty25 SConf.l_meters (.t rfl) (.t rfl) ?_)
  refine nil (pN (seq (takeNil eMirrorConf 59 ?_)))
  refine region (cons (opv (Ev.fieldAddr (o := 4) (.t rfl) (by kernel_rfl)) ?_))
  refine cons (opv (Ev.ldv ty26 (.t rfl) SConf.l_mirrors) ?_)
  refine cons (opv (Ev.fieldAddr (o := 4) (.t rfl) (by kernel_rfl)) ?_)
  refine cons (opv (Ev.ldx c.mirrors ty26 (.t rfl) SConf.l_mirrors) ?_)
  refine cons (app (E := eMirrorConf) Tryz.underlying26 ty59 zb59 zs59 (.t rfl) (.t rfl) (fun v8 => ?_) (hsrc := (fun w I => (hc.keep0 I.keeps).xs)) (hby := ⟨by (show _ ≤ 9223372036854775807); simp only [List.length_nil]; omega, by simp only [List.length_nil]; omega⟩))
  refine cons (opv (Ev.fieldAddr (o := 4) (.t rfl) (by kernel_rfl)) ?_)
  refine cons (stv ty26 SConf.l_mirrors (.t rfl) (.t rfl) ?_)
  refine nil (pN (seq (region (cons (opv (Ev.ldv ty28 (.t rfl) (Lens.id _)) ?_)))))
  refine cons (stv ty28 (Lens.id _) (.t rfl) (.t rfl) ?_)
  refine nil (pN (ret (done rfl (.cell rfl (fun w I => run_loadVar_pts ty28 (ptsVar (by repeat first | exact mH | apply mT | apply mA) (Lens.id _) w I)) .nil) (fun w I => ?_))))
  exact retNP (⟨v4, v5, v6, v7, v8⟩ : CB) trivial rfl (by repeat first | exact SubP.nil | refine SubP.cons (by repeat first | exact Rem.head | apply Rem.tail) ?_) w I
theorem samePorts_ok (u v : Value) (a b : List Int) (w : World) (ha : IsSl iE w u a) (hb : IsSl iE w v b) : Calls Tryz.prog 58 #[u, v] w (RetV w (.bool (decide (a = b)))) := by
  have hal := ha.le
  have hbl := hb.le
  refine enter0 26 Tryz.func58 rfl rfl (Nat.le_of_ble_eq_true rfl) ?_
  refine seq (region (cons (opv (Ev.assign (.c (v := .bool false) rfl)) ?_)))
  refine nil (pN (seq (seq (region (cons (opv (Ev.move (.t rfl)) (cons (opv (Ev.len Tryz.underlying22 (.t rfl) (fun w I => ha.keep0 I.keeps)) ?_))))))))
  refine cons (opv (Ev.move (.t rfl)) (cons (opv (Ev.len Tryz.underlying22 (.t rfl) (fun w I => hb.keep0 I.keeps)) ?_)))
  refine cons (opv (Ev.neq_i (.t rfl) (.t rfl)) ?_)
  refine nil (pN ?_)
  first | refine condD rfl (fun hne => ?_) (fun hlen => ?_) | refine cond rfl (fun hne => ?_) (fun hlen => ?_)
  · try simp only [nb] at hne
    refine seq (region (cons (opv (Ev.assign (.c (v := .bool false) rfl)) ?_)))
    refine nil (pN (ret (pR (done rfl (.tmp rfl .nil) (retE ?_)))))
    exact bF (fun e => by subst e; omega)
  · try simp only [nb] at hlen
    refine skip (pN (seq (seq (region (cons (opv (Ev.assign (.c (v := I 0) rfl)) ?_))))))
    refine nil (pN (block (lp (X := Int) (fun x : Int => (0 ≤ x ∧ x ≤ a.length) ∧ (a.take x.toNat = b.take x.toNat)) (fun x : Int => [(0, true, u), (1, true, v), (5, true, I x)]) (fun x : Int => []) (fun x : Int => (a.length - x).toNat) (0) ⟨?_, ?_⟩ (fun x hx => ?_))))
    · omega
    · rfl
    obtain ⟨i, rfl⟩ : ∃ y, y = x := ⟨x, rfl⟩
    obtain ⟨hi, ht⟩ : (0 ≤ i ∧ i ≤ a.length) ∧ (a.take i.toNat = b.take i.toNat) := hx
    show Sat _ _ [(0, true, u), (1, true, v), (5, true, I i)] []
    refine seq (seq (region (cons (opv (Ev.move (.t rfl)) (cons (opv (Ev.move (.t rfl)) (cons (opv (Ev.len Tryz.underlying22 (.t rfl) (fun w I => ha.keep0 I.keeps)) ?_))))))))
    refine cons (opv (Ev.lss_i (.t rfl) (.t rfl)) ?_)
    refine nil (pN ?_)
    first | refine condD rfl (fun hlt => ?_) (fun hge => ?_) | refine cond rfl (fun hlt => ?_) (fun hge => ?_)
    · try simp only [nb] at hlt
      refine skip (pN (seq (block (seq (draw' (by kernel_rfl) ?_)))))
      refine tk 0 rfl (Ev.move (.t rfl)) ?_
      refine tk 1 rfl (Ev.move (.t rfl)) ?_
      refine tk 2 rfl (Ev.indexAddr Tryz.underlying22 ty3 (.t rfl) (.t rfl) (fun w I => ha.keep0 I.keeps) (fun _ => by omega)) ?_
      refine tk 3 rfl (Ev.loadS0 ty3 (.t rfl) (fun w I => ha.keep0 I.keeps) (fun _ => by omega)) ?_
      refine tk 4 rfl (Ev.move (.t rfl)) ?_
      refine tk 5 rfl (Ev.move (.t rfl)) ?_
      refine tk 6 rfl (Ev.indexAddr Tryz.underlying22 ty3 (.t rfl) (.t rfl) (fun w I => hb.keep0 I.keeps) (fun _ => by omega)) ?_
      refine tk 7 rfl (Ev.loadS0 ty3 (.t rfl) (fun w I => hb.keep0 I.keeps) (fun _ => by omega)) ?_
      refine tk 8 rfl (Ev.neq_i (.t rfl) (.t rfl)) ?_
      refine ovr (pN ?_)
      first | refine condD rfl (fun h2 => ?_) (fun h2 => ?_) | refine cond rfl (fun h2 => ?_) (fun h2 => ?_)
      · refine seq (region (cons (opv (Ev.assign (.c (v := .bool false) rfl)) ?_)))
        refine nil (pN (ret (bR (pR (pR (bR (pR (done rfl (.tmp rfl .nil) (retE ?_)))))))))
        exact bF (fun e => by subst e; simp at h2)
      · refine skip (bN (pN (region (cons (opv (Ev.move (.t rfl)) (cons (opv (Ev.add_i (.t rfl) (.c (v := I 1) rfl) (fun _ => by omega)) ?_)))))))
        refine cons (opv (Ev.assign (.t rfl)) (nil (pN (nx (X := Int) (i + 1) ⟨?_, ?_⟩ ?_))))
        · try dsimp only
          omega
        · try dsimp only
          have h2c : a.getD i.toNat iE.zero = b.getD i.toNat iE.zero := by simpa using h2
          rw [take_snoc a i hi.1 (by omega) iE.zero, take_snoc b i hi.1 (by omega) iE.zero, ht, h2c]
        · try dsimp only
          omega
    · try simp only [nb] at hge
      refine exit (pX (pX (bX (pN (seq (region (cons (opv (Ev.assign (.c (v := .bool true) rfl)) ?_))))))))
      refine nil (pN (ret (done rfl (.tmp rfl .nil) (retE ?_))))
      exact bT (by
        have e : i.toNat = a.length := by omega
        rw [e, List.take_length, List.take_of_length_le (by omega)] at ht
        exact ht)
theorem sameRules_ok (u v : Value) (a b : List SRule) (w : World) (ha : IsSl eRule w u a) (hb : IsSl eRule w v b) : Calls Tryz.prog 59 #[u, v] w (RetV w (.bool (decide (a = b)))) := by
  have hal := ha.le
  have hbl := hb.le
  refine enter0 26 Tryz.func59 rfl rfl (Nat.le_of_ble_eq_true rfl) ?_
  refine seq (region (cons (opv (Ev.assign (.c (v := .bool false) rfl)) ?_)))
  refine nil (pN (seq (seq (region (cons (opv (Ev.move (.t rfl)) (cons (opv (Ev.len Tryz.underlying24 (.t rfl) (fun w I => ha.keep0 I.keeps)) ?_))))))))
  refine cons (opv (Ev.move (.t rfl)) (cons (opv (Ev.len Tryz.underlying24 (.t rfl) (fun w I => hb.keep0 I.keeps)) ?_)))
  refine cons (opv (Ev.neq_i (.t rfl) (.t rfl)) ?_)
  refine nil (pN ?_)
  first | refine condD rfl (fun hne => ?_) (fun hlen => ?_) | refine cond rfl (fun hne => ?_) (fun hlen => ?_)
  · try simp only [nb] at hne
    refine seq (region (cons (opv (Ev.assign (.c (v := .bool false) rfl)) ?_)))
    refine nil (pN (ret (pR (done rfl (.tmp rfl .nil) (retE ?_)))))
    exact bF (fun e => by subst e; omega)
  · try simp only [nb] at hlen
    refine skip (pN (seq (seq (region (cons (opv (Ev.assign (.c (v := I 0) rfl)) ?_))))))
    refine nil (pN (block (lp (X := Int) (fun x : Int => (0 ≤ x ∧ x ≤ a.length) ∧ (a.take x.toNat = b.take x.toNat)) (fun x : Int => [(0, true, u), (1, true, v), (5, true, I x)]) (fun x : Int => []) (fun x : Int => (a.length - x).toNat) (0) ⟨?_, ?_⟩ (fun x hx => ?_))))
    · omega
    · rfl
    obtain ⟨i, rfl⟩ : ∃ y, y = x := ⟨x, rfl⟩
    obtain ⟨hi, ht⟩ : (0 ≤ i ∧ i ≤ a.length) ∧ (a.take i.toNat = b.take i.toNat) := hx
    show Sat _ _ [(0, true, u), (1, true, v), (5, true, I i)] []
    refine seq (seq (region (cons (opv (Ev.move (.t rfl)) (cons (opv (Ev.move (.t rfl)) (cons (opv (Ev.len Tryz.underlying24 (.t rfl) (fun w I => ha.keep0 I.keeps)) ?_))))))))
    refine cons (opv (Ev.lss_i (.t rfl) (.t rfl)) ?_)
    refine nil (pN ?_)
    first | refine condD rfl (fun hlt => ?_) (fun hge => ?_) | refine cond rfl (fun hlt => ?_) (fun hge => ?_)
    · try simp only [nb] at hlt
      refine skip (pN (seq (block (seq (draw' (by kernel_rfl) ?_)))))
      refine tk 0 rfl (Ev.move (.t rfl)) ?_
      refine tk 1 rfl (Ev.move (.t rfl)) ?_
      refine tk 2 rfl (Ev.indexAddr Tryz.underlying24 ty76 (.t rfl) (.t rfl) (fun w I => ha.keep0 I.keeps) (fun _ => by omega)) ?_
      refine tk 3 rfl (Ev.loadS0 ty76 (.t rfl) (fun w I => ha.keep0 I.keeps) (fun _ => by omega)) ?_
      refine tk 4 rfl (Ev.move (.t rfl)) ?_
      refine tk 5 rfl (Ev.move (.t rfl)) ?_
      refine tk 6 rfl (Ev.indexAddr Tryz.underlying24 ty76 (.t rfl) (.t rfl) (fun w I => hb.keep0 I.keeps) (fun _ => by omega)) ?_
      refine tk 7 rfl (Ev.loadS0 ty76 (.t rfl) (fun w I => hb.keep0 I.keeps) (fun _ => by omega)) ?_
      refine tk 8 rfl (Ev.neqS rfl eqok76 rfl (by kernel_rfl) (.t rfl) (.t rfl)) ?_
      refine ovr (pN ?_)
      first | refine condD rfl (fun h2 => ?_) (fun h2 => ?_) | refine cond rfl (fun h2 => ?_) (fun h2 => ?_)
      · refine seq (region (cons (opv (Ev.assign (.c (v := .bool false) rfl)) ?_)))
        refine nil (pN (ret (bR (pR (pR (bR (pR (done rfl (.tmp rfl .nil) (retE ?_)))))))))
        exact bF (fun e => by subst e; simp at h2)
      · refine skip (bN (pN (region (cons (opv (Ev.move (.t rfl)) (cons (opv (Ev.add_i (.t rfl) (.c (v := I 1) rfl) (fun _ => by omega)) ?_)))))))
        refine cons (opv (Ev.assign (.t rfl)) (nil (pN (nx (X := Int) (i + 1) ⟨?_, ?_⟩ ?_))))
        · try dsimp only
          omega
        · try dsimp only
          have h2c : a.getD i.toNat eRule.zero = b.getD i.toNat eRule.zero := by simpa using h2
          rw [take_snoc a i hi.1 (by omega) eRule.zero, take_snoc b i hi.1 (by omega) eRule.zero, ht, h2c]
        · try dsimp only
          omega
    · try simp only [nb] at hge
      refine exit (pX (pX (bX (pN (seq (region (cons (opv (Ev.assign (.c (v := .bool true) rfl)) ?_))))))))
      refine nil (pN (ret (done rfl (.tmp rfl .nil) (retE ?_))))
      exact bT (by
        have e : i.toNat = a.length := by omega
        rw [e, List.take_length, List.take_of_length_le (by omega)] at ht
        exact ht)
theorem rroutes_n (u : Value) (a : List SRoute) (y : SRoute) (w : World) (ha : IsSl eRoute w u a) : Calls Tryz.prog 60 #[u, eRoute.val y] w (RetV w (I (a.countP (SRoute.eqb y) : Nat))) := by
  have hal := ha.le
  refine enter0 22 Tryz.func60 rfl rfl (Nat.le_of_ble_eq_true rfl) ?_
  refine seq (region (cons (box (E := eRoute) (.t rfl) (fun b1 => ?_))))
  refine cons (opv (Ev.assign (.c (v := I 0) rfl)) ?_)
  refine nil (pN (seq (region (cons (opv (Ev.assign (.c (v := I 0) rfl)) ?_)))))
  refine nil (pN (seq (seq (region (cons (opv (Ev.assign (.c (v := I 0) rfl)) ?_))))))
  refine nil (pN (block (lp (X := Int × Nat) (fun x : Int × Nat => (0 ≤ x.1 ∧ x.1 ≤ a.length) ∧ (x.2 = (a.take x.1.toNat).countP (SRoute.eqb y))) (fun x : Int × Nat => [(0, true, u), (3, true, .pointer (some ⟨b1, 0, none⟩)), (5, true, I (x.2 : Nat)), (6, true, I x.1)]) (fun x : Int × Nat => [Var b1 eRoute y 52]) (fun x : Int × Nat => (a.length - x.1).toNat) (0, 0) ⟨?_, ?_⟩ (fun x hx => ?_))))
  · omega
  · rfl
  obtain ⟨i, n⟩ := x
  obtain ⟨hi, hn⟩ : (0 ≤ i ∧ i ≤ a.length) ∧ (n = (a.take i.toNat).countP (SRoute.eqb y)) := hx
  show Sat _ _ [(0, true, u), (3, true, .pointer (some ⟨b1, 0, none⟩)), (5, true, I (n : Nat)), (6, true, I i)] [Var b1 eRoute y 52]
  have hnl : n ≤ i.toNat := by rw [hn]; exact Nat.le_trans List.countP_le_length (by simp; omega)
  refine seq (seq (region (cons (opv (Ev.move (.t rfl)) (cons (opv (Ev.move (.t rfl)) (cons (opv (Ev.len Tryz.underlying23 (.t rfl) (fun w I => ha.keep0 I.keeps)) ?_))))))))
  refine cons (opv (Ev.lss_i (.t rfl) (.t rfl)) ?_)
  refine nil (pN ?_)
  first | refine condD rfl (fun h0 => ?_) (fun h0 => ?_) | refine cond rfl (fun h0 => ?_) (fun h0 => ?_)
  · try simp only [nb] at h0
    refine skip (pN (seq (block (seq (draw' (by kernel_rfl) ?_)))))
    refine tk 0 rfl (Ev.move (.t rfl)) ?_
    refine tk 1 rfl (Ev.move (.t rfl)) ?_
    refine tk 2 rfl (Ev.indexAddr Tryz.underlying23 ty52 (.t rfl) (.t rfl) (fun w I => ha.keep0 I.keeps) (fun _ => by omega)) ?_
    refine tk 3 rfl (Ev.loadS0 ty52 (.t rfl) (fun w I => ha.keep0 I.keeps) (fun _ => by omega)) ?_
    refine tk 4 rfl (Ev.ldx y ty52 (.t rfl) (Lens.id _)) ?_
    refine tk 5 rfl (Ev.eqlS rfl eqok52 rfl (by kernel_rfl) (.t rfl) (.t rfl)) ?_
    refine ovr (pN ?_)
    first | refine condD rfl (fun h1 => ?_) (fun h1 => ?_) | refine cond rfl (fun h1 => ?_) (fun h1 => ?_)
    · have hst : n + 1 = (a.take (i + 1).toNat).countP (SRoute.eqb y) := by
        rw [take_snoc a i hi.1 (by omega) eRoute.zero, List.countP_append, ← hn]
        have e : a.getD i.toNat eRoute.zero = y := (SRoute.eqb_iff _ _).1 (by simpa using h1)
        rw [e, List.countP_singleton, (SRoute.eqb_iff _ _).2 rfl]
        rfl
      refine region (cons (opv (Ev.move (.t rfl)) (cons (opv (Ev.to (v' := I ((n + 1 : Nat) : Int)) (Ev.add_i (.t rfl) (.c (v := I 1) rfl) (fun _ => by omega)) (congrArg I (by omega))) ?_))))
      refine cons (opv (Ev.assign (.t rfl)) (nil (bN (pN (region (cons (opv (Ev.move (.t rfl)) (cons (opv (Ev.add_i (.t rfl) (.c (v := I 1) rfl) (fun _ => by omega)) ?_)))))))))
      refine cons (opv (Ev.assign (.t rfl)) (nil (pN (nx (X := Int × Nat) (i + 1, _) ⟨?_, ?_⟩ ?_))))
      · try dsimp only
        omega
      · try dsimp only
        exact hst
      · try dsimp only
        omega
    · have hst : n = (a.take (i + 1).toNat).countP (SRoute.eqb y) := by
        rw [take_snoc a i hi.1 (by omega) eRoute.zero, List.countP_append, ← hn]
        have e : ¬ SRoute.eqb y (a.getD i.toNat eRoute.zero) = true := fun h => by
          have h2 := (SRoute.eqb_iff _ _).1 h
          rw [← h2] at h1
          simp [SRoute.eqb_self] at h1
        rw [List.countP_singleton, if_neg e]
        rfl
      refine skip (bN (pN (region (cons (opv (Ev.move (.t rfl)) (cons (opv (Ev.add_i (.t rfl) (.c (v := I 1) rfl) (fun _ => by omega)) ?_)))))))
      refine cons (opv (Ev.assign (.t rfl)) (nil (pN (nx (X := Int × Nat) (i + 1, _) ⟨?_, ?_⟩ ?_))))
      · try dsimp only
        omega
      · try dsimp only
        exact hst
      · try dsimp only
        omega
  · try simp only [nb] at h0
    refine exit (pX (pX (bX (pN (seq (region (cons (opv (Ev.move (.t rfl)) (cons (opv (Ev.assign (.t rfl)) (nil (pN (ret (done rfl (.tmp rfl .nil) (retE ?_)))))))))))))))
    have e : a.take i.toNat = a := List.take_of_length_le (by omega)
    rw [e] at hn
    rw [hn]; rfl
theorem rmeters_n (u : Value) (a : List SMeterConf) (y : SMeterConf) (w : World) (ha : IsSl eMeterConf w u a) : Calls Tryz.prog 61 #[u, eMeterConf.val y] w (RetV w (I (a.countP (SMeterConf.eqb y) : Nat))) := by
  have hal := ha.le
  refine enter0 22 Tryz.func61 rfl rfl (Nat.le_of_ble_eq_true rfl) ?_
  refine seq (region (cons (box (E := eMeterConf) (.t rfl) (fun b1 => ?_))))
  refine cons (opv (Ev.assign (.c (v := I 0) rfl)) ?_)
  refine nil (pN (seq (region (cons (opv (Ev.assign (.c (v := I 0) rfl)) ?_)))))
  refine nil (pN (seq (seq (region (cons (opv (Ev.assign (.c (v := I 0) rfl)) ?_))))))
  refine nil (pN (block (lp (X := Int × Nat) (fun x : Int × Nat => (0 ≤ x.1 ∧ x.1 ≤ a.length) ∧ (x.2 = (a.take x.1.toNat).countP (SMeterConf.eqb y))) (fun x : Int × Nat => [(0, true, u), (3, true, .pointer (some ⟨b1, 0, none⟩)), (5, true, I (x.2 : Nat)), (6, true, I x.1)]) (fun x : Int × Nat => [Var b1 eMeterConf y 57]) (fun x : Int × Nat => (a.length - x.1).toNat) (0, 0) ⟨?_, ?_⟩ (fun x hx => ?_))))
  · omega
  · rfl
  obtain ⟨i, n⟩ := x
  obtain ⟨hi, hn⟩ : (0 ≤ i ∧ i ≤ a.length) ∧ (n = (a.take i.toNat).countP (SMeterConf.eqb y)) := hx
  show Sat _ _ [(0, true, u), (3, true, .pointer (some ⟨b1, 0, none⟩)), (5, true, I (n : Nat)), (6, true, I i)] [Var b1 eMeterConf y 57]
  have hnl : n ≤ i.toNat := by rw [hn]; exact Nat.le_trans List.countP_le_length (by simp; omega)
  refine seq (seq (region (cons (opv (Ev.move (.t rfl)) (cons (opv (Ev.move (.t rfl)) (cons (opv (Ev.len Tryz.underlying25 (.t rfl) (fun w I => ha.keep0 I.keeps)) ?_))))))))
  refine cons (opv (Ev.lss_i (.t rfl) (.t rfl)) ?_)
  refine nil (pN ?_)
  first | refine condD rfl (fun h0 => ?_) (fun h0 => ?_) | refine cond rfl (fun h0 => ?_) (fun h0 => ?_)
  · try simp only [nb] at h0
    refine skip (pN (seq (block (seq (draw' (by kernel_rfl) ?_)))))
    refine tk 0 rfl (Ev.move (.t rfl)) ?_
    refine tk 1 rfl (Ev.move (.t rfl)) ?_
    refine tk 2 rfl (Ev.indexAddr Tryz.underlying25 ty57 (.t rfl) (.t rfl) (fun w I => ha.keep0 I.keeps) (fun _ => by omega)) ?_
    refine tk 3 rfl (Ev.loadS0 ty57 (.t rfl) (fun w I => ha.keep0 I.keeps) (fun _ => by omega)) ?_
    refine tk 4 rfl (Ev.ldx y ty57 (.t rfl) (Lens.id _)) ?_
    refine tk 5 rfl (Ev.eqlS rfl eqok57 rfl (by kernel_rfl) (.t rfl) (.t rfl)) ?_
    refine ovr (pN ?_)
    first | refine condD rfl (fun h1 => ?_) (fun h1 => ?_) | refine cond rfl (fun h1 => ?_) (fun h1 => ?_)
    · have hst : n + 1 = (a.take (i + 1).toNat).countP (SMeterConf.eqb y) := by
        rw [take_snoc a i hi.1 (by omega) eMeterConf.zero, List.countP_append, ← hn]
        have e : a.getD i.toNat eMeterConf.zero = y := (SMeterConf.eqb_iff _ _).1 (by simpa using h1)
        rw [e, List.countP_singleton, (SMeterConf.eqb_iff _ _).2 rfl]
        rfl
      refine region (cons (opv (Ev.move (.t rfl)) (cons (opv (Ev.to (v' := I ((n + 1 : Nat) : Int)) (Ev.add_i (.t rfl) (.c (v := I 1) rfl) (fun _ => by omega)) (congrArg I (by omega))) ?_))))
      refine cons (opv (Ev.assign (.t rfl)) (nil (bN (pN (region (cons (opv (Ev.move (.t rfl)) (cons (opv (Ev.add_i (.t rfl) (.c (v := I 1) rfl) (fun _ => by omega)) ?_)))))))))
      refine cons (opv (Ev.assign (.t rfl)) (nil (pN (nx (X := Int × Nat) (i + 1, _) ⟨?_, ?_⟩ ?_))))
      · try dsimp only
        omega
      · try dsimp only
        exact hst
      · try dsimp only
        omega
    · have hst : n = (a.take (i + 1).toNat).countP (SMeterConf.eqb y) := by
        rw [take_snoc a i hi.1 (by omega) eMeterConf.zero, List.countP_append, ← hn]
        have e : ¬ SMeterConf.eqb y (a.getD i.toNat eMeterConf.zero) = true := fun h => by
          have h2 := (SMeterConf.eqb_iff _ _).1 h
          rw [← h2] at h1
          simp [SMeterConf.eqb_self] at h1
        rw [List.countP_singleton, if_neg e]
        rfl
      refine skip (bN (pN (region (cons (opv (Ev.move (.t rfl)) (cons (opv (Ev.add_i (.t rfl) (.c (v := I 1) rfl) (fun _ => by omega)) ?_)))))))
      refine cons (opv (Ev.assign (.t rfl)) (nil (pN (nx (X := Int × Nat) (i + 1, _) ⟨?_, ?_⟩ ?_))))
      · try dsimp only
        omega
      · try dsimp only
        exact hst
      · try dsimp only
        omega
  · try simp only [nb] at h0
    refine exit (pX (pX (bX (pN (seq (region (cons (opv (Ev.move (.t rfl)) (cons (opv (Ev.assign (.t rfl)) (nil (pN (ret (done rfl (.tmp rfl .nil) (retE ?_)))))))))))))))
    have e : a.take i.toNat = a := List.take_of_length_le (by omega)
    rw [e] at hn
    rw [hn]; rfl
theorem rmirrors_n (u : Value) (a : List SMirrorConf) (y : SMirrorConf) (w : World) (ha : IsSl eMirrorConf w u a) : Calls Tryz.prog 62 #[u, eMirrorConf.val y] w (RetV w (I (a.countP (SMirrorConf.eqb y) : Nat))) := by
  have hal := ha.le
  refine enter0 22 Tryz.func62 rfl rfl (Nat.le_of_ble_eq_true rfl) ?_
  refine seq (region (cons (box (E := eMirrorConf) (.t rfl) (fun b1 => ?_))))
  refine cons (opv (Ev.assign (.c (v := I 0) rfl)) ?_)
  refine nil (pN (seq (region (cons (opv (Ev.assign (.c (v := I 0) rfl)) ?_)))))
  refine nil (pN (seq (seq (region (cons (opv (Ev.assign (.c (v := I 0) rfl)) ?_))))))
  refine nil (pN (block (lp (X := Int × Nat) (fun x : Int × Nat => (0 ≤ x.1 ∧ x.1 ≤ a.length) ∧ (x.2 = (a.take x.1.toNat).countP (SMirrorConf.eqb y))) (fun x : Int × Nat => [(0, true, u), (3, true, .pointer (some ⟨b1, 0, none⟩)), (5, true, I (x.2 : Nat)), (6, true, I x.1)]) (fun x : Int × Nat => [Var b1 eMirrorConf y 59]) (fun x : Int × Nat => (a.length - x.1).toNat) (0, 0) ⟨?_, ?_⟩ (fun x hx => ?_))))
  · omega
  · rfl
  obtain ⟨i, n⟩ := x
  obtain ⟨hi, hn⟩ : (0 ≤ i ∧ i ≤ a.length) ∧ (n = (a.take i.toNat).countP (SMirrorConf.eqb y)) := hx
  show Sat _ _ [(0, true, u), (3, true, .pointer (some ⟨b1, 0, none⟩)), (5, true, I (n : Nat)), (6, true, I i)] [Var b1 eMirrorConf y 59]
  have hnl : n ≤ i.toNat := by rw [hn]; exact Nat.le_trans List.countP_le_length (by simp; omega)
  refine seq (seq (region (cons (opv (Ev.move (.t rfl)) (cons (opv (Ev.move (.t rfl)) (cons (opv (Ev.len Tryz.underlying26 (.t rfl) (fun w I => ha.keep0 I.keeps)) ?_))))))))
  refine cons (opv (Ev.lss_i (.t rfl) (.t rfl)) ?_)
  refine nil (pN ?_)
  first | refine condD rfl (fun h0 => ?_) (fun h0 => ?_) | refine cond rfl (fun h0 => ?_) (fun h0 => ?_)
  · try simp only [nb] at h0
    refine skip (pN (seq (block (seq (draw' (by kernel_rfl) ?_)))))
    refine tk 0 rfl (Ev.move (.t rfl)) ?_
    refine tk 1 rfl (Ev.move (.t rfl)) ?_
    refine tk 2 rfl (Ev.indexAddr Tryz.underlying26 ty59 (.t rfl) (.t rfl) (fun w I => ha.keep0 I.keeps) (fun _ => by omega)) ?_
    refine tk 3 rfl (Ev.loadS0 ty59 (.t rfl) (fun w I => ha.keep0 I.keeps) (fun _ => by omega)) ?_
    refine tk 4 rfl (Ev.ldx y ty59 (.t rfl) (Lens.id _)) ?_
    refine tk 5 rfl (Ev.eqlS rfl eqok59 rfl (by kernel_rfl) (.t rfl) (.t rfl)) ?_
    refine ovr (pN ?_)
    first | refine condD rfl (fun h1 => ?_) (fun h1 => ?_) | refine cond rfl (fun h1 => ?_) (fun h1 => ?_)
    · have hst : n + 1 = (a.take (i + 1).toNat).countP (SMirrorConf.eqb y) := by
        rw [take_snoc a i hi.1 (by omega) eMirrorConf.zero, List.countP_append, ← hn]
        have e : a.getD i.toNat eMirrorConf.zero = y := (SMirrorConf.eqb_iff _ _).1 (by simpa using h1)
        rw [e, List.countP_singleton, (SMirrorConf.eqb_iff _ _).2 rfl]
        rfl
      refine region (cons (opv (Ev.move (.t rfl)) (cons (opv (Ev.to (v' := I ((n + 1 : Nat) : Int)) (Ev.add_i (.t rfl) (.c (v := I 1) rfl) (fun _ => by omega)) (congrArg I (by omega))) ?_))))
      refine cons (opv (Ev.assign (.t rfl)) (nil (bN (pN (region (cons (opv (Ev.move (.t rfl)) (cons (opv (Ev.add_i (.t rfl) (.c (v := I 1) rfl) (fun _ => by omega)) ?_)))))))))
      refine cons (opv (Ev.assign (.t rfl)) (nil (pN (nx (X := Int × Nat) (i + 1, _) ⟨?_, ?_⟩ ?_))))
      · try dsimp only
        omega
      · try dsimp only
        exact hst
      · try dsimp only
        omega
    · have hst : n = (a.take (i + 1).toNat).countP (SMirrorConf.eqb y) := by
        rw [take_snoc a i hi.1 (by omega) eMirrorConf.zero, List.countP_append, ← hn]
        have e : ¬ SMirrorConf.eqb y (a.getD i.toNat eMirrorConf.zero) = true := fun h => by
          have h2 := (SMirrorConf.eqb_iff _ _).1 h
          rw [← h2] at h1
          simp [SMirrorConf.eqb_self] at h1
        rw [List.countP_singleton, if_neg e]
        rfl
      refine skip (bN (pN (region (cons (opv (Ev.move (.t rfl)) (cons (opv (Ev.add_i (.t rfl) (.c (v := I 1) rfl) (fun _ => by omega)) ?_)))))))
      refine cons (opv (Ev.assign (.t rfl)) (nil (pN (nx (X := Int × Nat) (i + 1, _) ⟨?_, ?_⟩ ?_))))
      · try dsimp only
        omega
      · try dsimp only
        exact hst
      · try dsimp only
        omega
  · try simp only [nb] at h0
    refine exit (pX (pX (bX (pN (seq (region (cons (opv (Ev.move (.t rfl)) (cons (opv (Ev.assign (.t rfl)) (nil (pN (ret (done rfl (.tmp rfl .nil) (retE ?_)))))))))))))))
    have e : a.take i.toNat = a := List.take_of_length_le (by omega)
    rw [e] at hn
    rw [hn]; rfl
def hdrB (a b : CL) (d e : Int) : Bool := decide (d = e ∧ a.ps = b.ps ∧ a.us = b.us ∧ a.rs.length = b.rs.length ∧ a.ms.length = b.ms.length ∧ a.xs.length = b.xs.length)
def cntB {α : Type} (q : α → α → Bool) (l k : List α) : Bool := l.all (fun x => decide (l.countP (q x) = k.countP (q x)))
theorem sameB_R (a b : CL) (d e : Int) : sameB a b d e = (hdrB a b d e && (cntB SRoute.eqb a.rs b.rs && (cntB SMeterConf.eqb a.ms b.ms && cntB SMirrorConf.eqb a.xs b.xs))) := by
  unfold sameB
  rw [← alikeR_eq SRoute.eqb_iff, ← alikeR_eq SMeterConf.eqb_iff, ← alikeR_eq SMirrorConf.eqb_iff]
  unfold alikeR hdrB
  simp only [Bool.decide_and]
  show _ = (_ && (cntB _ _ _ && (cntB _ _ _ && cntB _ _ _)))
  unfold cntB
  ac_rfl
theorem cntB_no {α : Type} {q : α → α → Bool} {l k : List α} (z : α) (i : Nat) (h : i < l.length) (hn : ¬ l.countP (q (l.getD i z)) = k.countP (q (l.getD i z))) : cntB q l k = false := by
  unfold cntB
  exact List.all_eq_false.2 ⟨l.getD i z, getD_in _ _ _ h, by simpa using hn⟩
theorem cntB_yes {α : Type} {q : α → α → Bool} {l k : List α} (z : α) (h : ∀ j, j < l.length → l.countP (q (l.getD j z)) = k.countP (q (l.getD j z))) : cntB q l k = true := by
  unfold cntB
  rw [List.all_eq_true]
  intro x hx
  obtain ⟨j, hj, rfl⟩ := List.mem_iff_getElem.1 hx
  have := h j hj
  simpa [List.getD, hj] using this
def exactB (a b : CL) (d e : Int) : Bool := decide (d = e ∧ a.ps = b.ps ∧ a.us = b.us ∧ a.rs = b.rs ∧ a.ms = b.ms ∧ a.xs = b.xs)
theorem exactB_self (a : CL) (d : Int) : exactB a a d d = true := decide_eq_true ⟨rfl, rfl, rfl, rfl, rfl, rfl⟩
theorem sameB_perm (a b : CL) (d e : Int) : sameB a b d e = true ↔ d = e ∧ a.ps = b.ps ∧ a.us = b.us ∧ a.rs.Perm b.rs ∧ a.ms.Perm b.ms ∧ a.xs.Perm b.xs := by
  unfold sameB
  simp only [Bool.and_eq_true, decide_eq_true_iff, alike_perm SRoute.eqb_iff, alike_perm SMeterConf.eqb_iff, alike_perm SMirrorConf.eqb_iff]
theorem eq_getD {α : Type} {l k : List α} (z : α) (h : l.length = k.length) (hq : ∀ j, j < l.length → l.getD j z = k.getD j z) : l = k := by
  refine List.ext_getElem h fun j h1 h2 => ?_
  have := hq j h1
  simpa [List.getD, h1, h2] using this
theorem en58 : Gx.Enters Tryz.prog 58 := Gx.Enters.mk' (by kernel_rfl)
theorem en59 : Gx.Enters Tryz.prog 59 := Gx.Enters.mk' (by kernel_rfl)
theorem en60 : Gx.Enters Tryz.prog 60 := Gx.Enters.mk' (by kernel_rfl)
theorem en61 : Gx.Enters Tryz.prog 61 := Gx.Enters.mk' (by kernel_rfl)
theorem en62 : Gx.Enters Tryz.prog 62 := Gx.Enters.mk' (by kernel_rfl)
theorem rsame_ok (a b : SConf) (l k : CL) (w : World) (ha : ConfAt w a l) (hb : ConfAt w b k) : Calls Tryz.prog 22 #[eConf.val a, eConf.val b] w (RetV w (.bool (sameB l k a.default b.default))) := by
  have hla0 := ha.ps.le
  have hlb0 := hb.ps.le
  have hla1 := ha.rs.le
  have hlb1 := hb.rs.le
  have hla2 := ha.us.le
  have hlb2 := hb.us.le
  have hla3 := ha.ms.le
  have hlb3 := hb.ms.le
  have hla4 := ha.xs.le
  have hlb4 := hb.xs.le
  refine enter0 128 Tryz.func22 rfl rfl (Nat.le_of_ble_eq_true rfl) ?_
  refine seq (region (cons (box (E := eConf) (.t rfl) (fun b1 => ?_))))
  refine cons (box (E := eConf) (.t rfl) (fun b2 => ?_))
  refine cons (opv (Ev.assign (.c (v := .bool false) rfl)) ?_)
  refine nil (pN (seq (seq (region (cons (opv (Ev.fieldAddr (o := 5) (.t rfl) (by kernel_rfl)) ?_))))))
  refine cons (opv (Ev.ldx a.default ty3 (.t rfl) SConf.l_default) ?_)
  refine cons (opv (Ev.fieldAddr (o := 5) (.t rfl) (by kernel_rfl)) ?_)
  refine cons (opv (Ev.ldx b.default ty3 (.t rfl) SConf.l_default) ?_)
  refine cons (opv (Ev.neq_i (.t rfl) (.t rfl)) ?_)
  refine cons (opv (Ev.move (.t rfl)) (cons (opg rfl rfl (Ev.fieldAddr (o := 0) (.t rfl) (by kernel_rfl)) ?_)))
  refine cons (opg rfl rfl (Ev.ldx a.ports ty22 (.g rfl id) SConf.l_ports) ?_)
  refine cons (opg rfl rfl (Ev.fieldAddr (o := 0) (.t rfl) (by kernel_rfl)) ?_)
  refine cons (opg rfl rfl (Ev.ldx b.ports ty22 (.g rfl id) SConf.l_ports) ?_)
  refine cons (callg rfl rfl en58 (.cons (.g rfl id) (.cons (.g rfl id) .nil)) (fun hg w I => samePorts_ok _ _ _ _ w ((ha.keep0 I.keeps).ps) ((hb.keep0 I.keeps).ps)) ?_)
  refine cons (opg rfl rfl (Ev.not (.g rfl id)) ?_)
  refine cons (opv (Ev.pickO (.t rfl) (.c (v := .bool true) rfl) (fun {_} h => by cases h; rfl) ⟨_, rfl⟩ (by intro h1 h; first | (rw [h] <;> rfl) | (rw [h1, h] <;> rfl) | (rw [h, h1] <;> rfl) | simp_all)) ?_)
  refine cons (opv (Ev.move (.t rfl)) (cons (opg rfl rfl (Ev.fieldAddr (o := 2) (.t rfl) (by kernel_rfl)) ?_)))
  refine cons (opg rfl rfl (Ev.ldx a.rules ty24 (.g rfl id) SConf.l_rules) ?_)
  refine cons (opg rfl rfl (Ev.fieldAddr (o := 2) (.t rfl) (by kernel_rfl)) ?_)
  refine cons (opg rfl rfl (Ev.ldx b.rules ty24 (.g rfl id) SConf.l_rules) ?_)
  refine cons (callg rfl rfl en59 (.cons (.g rfl id) (.cons (.g rfl id) .nil)) (fun hg w I => sameRules_ok _ _ _ _ w ((ha.keep0 I.keeps).us) ((hb.keep0 I.keeps).us)) ?_)
  refine cons (opg rfl rfl (Ev.not (.g rfl id)) ?_)
  refine cons (opv (Ev.pickO (.t rfl) (.c (v := .bool true) rfl) (fun {_} h => by cases h; rfl) ⟨_, rfl⟩ (by intro h1 h; first | (rw [h] <;> rfl) | (rw [h1, h] <;> rfl) | (rw [h, h1] <;> rfl) | simp_all)) ?_)
  refine cons (opv (Ev.move (.t rfl)) (cons (opg rfl rfl (Ev.fieldAddr (o := 1) (.t rfl) (by kernel_rfl)) ?_)))
  refine cons (opg rfl rfl (Ev.ldx a.routes ty23 (.g rfl id) SConf.l_routes) ?_)
  refine cons (opg rfl rfl (Ev.len Tryz.underlying23 (.g rfl id) (fun w I => (ha.keep0 I.keeps).rs)) ?_)
  refine cons (opg rfl rfl (Ev.fieldAddr (o := 1) (.t rfl) (by kernel_rfl)) ?_)
  refine cons (opg rfl rfl (Ev.ldx b.routes ty23 (.g rfl id) SConf.l_routes) ?_)
  refine cons (opg rfl rfl (Ev.len Tryz.underlying23 (.g rfl id) (fun w I => (hb.keep0 I.keeps).rs)) ?_)
  refine cons (opg rfl rfl (Ev.neq_i (.g rfl id) (.g rfl id)) ?_)
  refine cons (opv (Ev.pickO (.t rfl) (.c (v := .bool true) rfl) (fun {_} h => by cases h; rfl) ⟨_, rfl⟩ (by intro h1 h; first | (rw [h] <;> rfl) | (rw [h1, h] <;> rfl) | (rw [h, h1] <;> rfl) | simp_all)) ?_)
  refine cons (opv (Ev.move (.t rfl)) (cons (opg rfl rfl (Ev.fieldAddr (o := 3) (.t rfl) (by kernel_rfl)) ?_)))
  refine cons (opg rfl rfl (Ev.ldx a.meters ty25 (.g rfl id) SConf.l_meters) ?_)
  refine cons (opg rfl rfl (Ev.len Tryz.underlying25 (.g rfl id) (fun w I => (ha.keep0 I.keeps).ms)) ?_)
  refine cons (opg rfl rfl (Ev.fieldAddr (o := 3) (.t rfl) (by kernel_rfl)) ?_)
  refine cons (opg rfl rfl (Ev.ldx b.meters ty25 (.g rfl id) SConf.l_meters) ?_)
  refine cons (opg rfl rfl (Ev.len Tryz.underlying25 (.g rfl id) (fun w I => (hb.keep0 I.keeps).ms)) ?_)
  refine cons (opg rfl rfl (Ev.neq_i (.g rfl id) (.g rfl id)) ?_)
  refine cons (opv (Ev.pickO (.t rfl) (.c (v := .bool true) rfl) (fun {_} h => by cases h; rfl) ⟨_, rfl⟩ (by intro h1 h; first | (rw [h] <;> rfl) | (rw [h1, h] <;> rfl) | (rw [h, h1] <;> rfl) | simp_all)) ?_)
  refine cons (opv (Ev.move (.t rfl)) (cons (opg rfl rfl (Ev.fieldAddr (o := 4) (.t rfl) (by kernel_rfl)) ?_)))
  refine cons (opg rfl rfl (Ev.ldx a.mirrors ty26 (.g rfl id) SConf.l_mirrors) ?_)
  refine cons (opg rfl rfl (Ev.len Tryz.underlying26 (.g rfl id) (fun w I => (ha.keep0 I.keeps).xs)) ?_)
  refine cons (opg rfl rfl (Ev.fieldAddr (o := 4) (.t rfl) (by kernel_rfl)) ?_)
  refine cons (opg rfl rfl (Ev.ldx b.mirrors ty26 (.g rfl id) SConf.l_mirrors) ?_)
  refine cons (opg rfl rfl (Ev.len Tryz.underlying26 (.g rfl id) (fun w I => (hb.keep0 I.keeps).xs)) ?_)
  refine cons (opg rfl rfl (Ev.neq_i (.g rfl id) (.g rfl id)) ?_)
  refine cons (opv (Ev.pickO (.t rfl) (.c (v := .bool true) rfl) (fun {_} h => by cases h; rfl) ⟨_, rfl⟩ (by intro h1 h; first | (rw [h] <;> rfl) | (rw [h1, h] <;> rfl) | (rw [h, h1] <;> rfl) | simp_all)) ?_)
  refine nil (pN ?_)
  first | refine condD rfl (fun h0 => ?_) (fun h0 => ?_) | refine cond rfl (fun h0 => ?_) (fun h0 => ?_)
  · refine seq (region (cons (opv (Ev.assign (.c (v := .bool false) rfl)) ?_)))
    refine nil (pN (ret (pR (done rfl (.tmp rfl .nil) (retE ?_)))))
    have hh : hdrB l k a.default b.default = false := by
      rw [Bool.eq_false_iff]
      intro h
      obtain ⟨e1, e2, e3, e4, e5, e6⟩ := of_decide_eq_true h
      simp [e1, e2, e3, e4, e5, e6] at h0
    rw [sameB_R, hh]; rfl
  · have hhd : hdrB l k a.default b.default = true := by
      simp at h0
      exact decide_eq_true ⟨h0.1.1.1.1.1, h0.1.1.1.1.2, h0.1.1.1.2, by omega, by omega, by omega⟩
    refine skip (pN (seq (seq (region (cons (opv (Ev.assign (.c (v := I 0) rfl)) ?_))))))
    refine nil (pN (block (lp (X := Int) (fun x : Int => (0 ≤ x ∧ x ≤ l.rs.length) ∧ (∀ j : Nat, j < x → l.rs.countP (SRoute.eqb (l.rs.getD j eRoute.zero)) = k.rs.countP (SRoute.eqb (l.rs.getD j eRoute.zero)))) (fun x : Int => [(2, true, .pointer (some ⟨b1, 0, none⟩)), (3, true, .pointer (some ⟨b2, 0, none⟩)), (5, true, I x)]) (fun x : Int => [Var b2 eConf b 28, Var b1 eConf a 28]) (fun x : Int => (l.rs.length - x).toNat) (0) ⟨?_, ?_⟩ (fun x hx => ?_))))
    · omega
    · intro j h; omega
    obtain ⟨i0, rfl⟩ : ∃ y, y = x := ⟨x, rfl⟩
    obtain ⟨hi0, hq0⟩ : (0 ≤ i0 ∧ i0 ≤ l.rs.length) ∧ (∀ j : Nat, j < i0 → l.rs.countP (SRoute.eqb (l.rs.getD j eRoute.zero)) = k.rs.countP (SRoute.eqb (l.rs.getD j eRoute.zero))) := hx
    show Sat _ _ [(2, true, .pointer (some ⟨b1, 0, none⟩)), (3, true, .pointer (some ⟨b2, 0, none⟩)), (5, true, I i0)] [Var b2 eConf b 28, Var b1 eConf a 28]
    refine seq (seq (region (cons (opv (Ev.move (.t rfl)) (cons (opv (Ev.fieldAddr (o := 1) (.t rfl) (by kernel_rfl)) ?_))))))
    refine cons (opv (Ev.ldx a.routes ty23 (.t rfl) SConf.l_routes) ?_)
    refine cons (opv (Ev.len Tryz.underlying23 (.t rfl) (fun w I => (ha.keep0 I.keeps).rs)) ?_)
    refine cons (opv (Ev.lss_i (.t rfl) (.t rfl)) ?_)
    refine nil (pN ?_)
    first | refine condD rfl (fun h1 => ?_) (fun h1 => ?_) | refine cond rfl (fun h1 => ?_) (fun h1 => ?_)
    · try simp only [nb] at h1
      refine skip (pN (seq (block (seq (draw' (by kernel_rfl) ?_)))))
      refine tk 0 rfl (Ev.fieldAddr (o := 1) (.t rfl) (by kernel_rfl)) ?_
      refine tk 1 rfl (Ev.ldx a.routes ty23 (.t rfl) SConf.l_routes) ?_
      refine tk 2 rfl (Ev.fieldAddr (o := 1) (.t rfl) (by kernel_rfl)) ?_
      refine tk 3 rfl (Ev.ldx a.routes ty23 (.t rfl) SConf.l_routes) ?_
      refine tk 4 rfl (Ev.move (.t rfl)) ?_
      refine tk 5 rfl (Ev.indexAddr Tryz.underlying23 ty52 (.t rfl) (.t rfl) (fun w I => (ha.keep0 I.keeps).rs) (fun _ => by omega)) ?_
      refine tk 6 rfl (Ev.loadS0 ty52 (.t rfl) (fun w I => (ha.keep0 I.keeps).rs) (fun _ => by omega)) ?_
      refine tk 8 rfl (Ev.fieldAddr (o := 1) (.t rfl) (by kernel_rfl)) ?_
      refine tk 9 rfl (Ev.ldx b.routes ty23 (.t rfl) SConf.l_routes) ?_
      refine tk 10 rfl (Ev.fieldAddr (o := 1) (.t rfl) (by kernel_rfl)) ?_
      refine tk 11 rfl (Ev.ldx a.routes ty23 (.t rfl) SConf.l_routes) ?_
      refine tk 12 rfl (Ev.move (.t rfl)) ?_
      refine tk 13 rfl (Ev.indexAddr Tryz.underlying23 ty52 (.t rfl) (.t rfl) (fun w I => (ha.keep0 I.keeps).rs) (fun _ => by omega)) ?_
      refine tk 14 rfl (Ev.loadS0 ty52 (.t rfl) (fun w I => (ha.keep0 I.keeps).rs) (fun _ => by omega)) ?_
      refine al1 7 rfl ((callv en60 (.cons (.t rfl) (.cons (.t rfl) .nil)) (fun w I => rroutes_n _ _ _ w ((ha.keep0 I.keeps).rs)) ?_))
      refine hdn (al1 15 rfl ((callv en60 (.cons (.t rfl) (.cons (.t rfl) .nil)) (fun w I => rroutes_n _ _ _ w ((hb.keep0 I.keeps).rs)) ?_)))
      refine hdn (tk 16 rfl (Ev.neq_i (.t rfl) (.t rfl)) ?_)
      refine ovr (pN ?_)
      first | refine condD rfl (fun h2 => ?_) (fun h2 => ?_) | refine cond rfl (fun h2 => ?_) (fun h2 => ?_)
      · replace h2 : ¬ l.rs.countP (SRoute.eqb (l.rs.getD i0.toNat eRoute.zero)) = k.rs.countP (SRoute.eqb (l.rs.getD i0.toNat eRoute.zero)) := by omega
        refine seq (region (cons (opv (Ev.assign (.c (v := .bool false) rfl)) ?_)))
        refine nil (pN (ret (bR (pR (pR (bR (pR (done rfl (.tmp rfl .nil) (retE ?_)))))))))
        have hh : cntB SRoute.eqb l.rs k.rs = false := cntB_no eRoute.zero i0.toNat (by omega) h2
        rw [sameB_R, hh]; simp [tupV]
      · replace h2 : l.rs.countP (SRoute.eqb (l.rs.getD i0.toNat eRoute.zero)) = k.rs.countP (SRoute.eqb (l.rs.getD i0.toNat eRoute.zero)) := by omega
        refine skip (bN (pN (region (cons (opv (Ev.move (.t rfl)) (cons (opv (Ev.add_i (.t rfl) (.c (v := I 1) rfl) (fun _ => by omega)) ?_)))))))
        refine cons (opv (Ev.assign (.t rfl)) (nil (pN (nx (X := Int) (i0 + 1) ⟨?_, ?_⟩ ?_))))
        · try dsimp only
          omega
        · try dsimp only
          intro j h
          by_cases e : (j : Int) < i0
          · exact hq0 j e
          · obtain rfl : j = i0.toNat := by omega
            exact h2
        · try dsimp only
          omega
    · try simp only [nb] at h1
      refine exit (pX (pX (bX (pN (seq (seq (region (cons (opv (Ev.assign (.c (v := I 0) rfl)) ?_)))))))))
      refine nil (pN (block (lp (X := Int) (fun x : Int => (0 ≤ x ∧ x ≤ l.ms.length) ∧ (∀ j : Nat, j < x → l.ms.countP (SMeterConf.eqb (l.ms.getD j eMeterConf.zero)) = k.ms.countP (SMeterConf.eqb (l.ms.getD j eMeterConf.zero)))) (fun x : Int => [(2, true, .pointer (some ⟨b1, 0, none⟩)), (3, true, .pointer (some ⟨b2, 0, none⟩)), (6, true, I x)]) (fun x : Int => [Var b2 eConf b 28, Var b1 eConf a 28]) (fun x : Int => (l.ms.length - x).toNat) (0) ⟨?_, ?_⟩ (fun x hx => ?_))))
      · omega
      · intro j h; omega
      obtain ⟨i1, rfl⟩ : ∃ y, y = x := ⟨x, rfl⟩
      obtain ⟨hi1, hq1⟩ : (0 ≤ i1 ∧ i1 ≤ l.ms.length) ∧ (∀ j : Nat, j < i1 → l.ms.countP (SMeterConf.eqb (l.ms.getD j eMeterConf.zero)) = k.ms.countP (SMeterConf.eqb (l.ms.getD j eMeterConf.zero))) := hx
      show Sat _ _ [(2, true, .pointer (some ⟨b1, 0, none⟩)), (3, true, .pointer (some ⟨b2, 0, none⟩)), (6, true, I i1)] [Var b2 eConf b 28, Var b1 eConf a 28]
      refine seq (seq (region (cons (opv (Ev.move (.t rfl)) (cons (opv (Ev.fieldAddr (o := 3) (.t rfl) (by kernel_rfl)) ?_))))))
      refine cons (opv (Ev.ldx a.meters ty25 (.t rfl) SConf.l_meters) ?_)
      refine cons (opv (Ev.len Tryz.underlying25 (.t rfl) (fun w I => (ha.keep0 I.keeps).ms)) ?_)
      refine cons (opv (Ev.lss_i (.t rfl) (.t rfl)) ?_)
      refine nil (pN ?_)
      first | refine condD rfl (fun h3 => ?_) (fun h3 => ?_) | refine cond rfl (fun h3 => ?_) (fun h3 => ?_)
      · try simp only [nb] at h3
        refine skip (pN (seq (block (seq (draw' (by kernel_rfl) ?_)))))
        refine tk 0 rfl (Ev.fieldAddr (o := 3) (.t rfl) (by kernel_rfl)) ?_
        refine tk 1 rfl (Ev.ldx a.meters ty25 (.t rfl) SConf.l_meters) ?_
        refine tk 2 rfl (Ev.fieldAddr (o := 3) (.t rfl) (by kernel_rfl)) ?_
        refine tk 3 rfl (Ev.ldx a.meters ty25 (.t rfl) SConf.l_meters) ?_
        refine tk 4 rfl (Ev.move (.t rfl)) ?_
        refine tk 5 rfl (Ev.indexAddr Tryz.underlying25 ty57 (.t rfl) (.t rfl) (fun w I => (ha.keep0 I.keeps).ms) (fun _ => by omega)) ?_
        refine tk 6 rfl (Ev.loadS0 ty57 (.t rfl) (fun w I => (ha.keep0 I.keeps).ms) (fun _ => by omega)) ?_
        refine tk 8 rfl (Ev.fieldAddr (o := 3) (.t rfl) (by kernel_rfl)) ?_
        refine tk 9 rfl (Ev.ldx b.meters ty25 (.t rfl) SConf.l_meters) ?_
        refine tk 10 rfl (Ev.fieldAddr (o := 3) (.t rfl) (by kernel_rfl)) ?_
        refine tk 11 rfl (Ev.ldx a.meters ty25 (.t rfl) SConf.l_meters) ?_
        refine tk 12 rfl (Ev.move (.t rfl)) ?_
        refine tk 13 rfl (Ev.indexAddr Tryz.underlying25 ty57 (.t rfl) (.t rfl) (fun w I => (ha.keep0 I.keeps).ms) (fun _ => by omega)) ?_
        refine tk 14 rfl (Ev.loadS0 ty57 (.t rfl) (fun w I => (ha.keep0 I.keeps).ms) (fun _ => by omega)) ?_
        refine al1 7 rfl ((callv en61 (.cons (.t rfl) (.cons (.t rfl) .nil)) (fun w I => rmeters_n _ _ _ w ((ha.keep0 I.keeps).ms)) ?_))
        refine hdn (al1 15 rfl ((callv en61 (.cons (.t rfl) (.cons (.t rfl) .nil)) (fun w I => rmeters_n _ _ _ w ((hb.keep0 I.keeps).ms)) ?_)))
        refine hdn (tk 16 rfl (Ev.neq_i (.t rfl) (.t rfl)) ?_)
        refine ovr (pN ?_)
        first | refine condD rfl (fun h4 => ?_) (fun h4 => ?_) | refine cond rfl (fun h4 => ?_) (fun h4 => ?_)
        · replace h4 : ¬ l.ms.countP (SMeterConf.eqb (l.ms.getD i1.toNat eMeterConf.zero)) = k.ms.countP (SMeterConf.eqb (l.ms.getD i1.toNat eMeterConf.zero)) := by omega
          refine seq (region (cons (opv (Ev.assign (.c (v := .bool false) rfl)) ?_)))
          refine nil (pN (ret (bR (pR (pR (bR (pR (done rfl (.tmp rfl .nil) (retE ?_)))))))))
          have hh : cntB SMeterConf.eqb l.ms k.ms = false := cntB_no eMeterConf.zero i1.toNat (by omega) h4
          rw [sameB_R, hh]; simp [tupV]
        · replace h4 : l.ms.countP (SMeterConf.eqb (l.ms.getD i1.toNat eMeterConf.zero)) = k.ms.countP (SMeterConf.eqb (l.ms.getD i1.toNat eMeterConf.zero)) := by omega
          refine skip (bN (pN (region (cons (opv (Ev.move (.t rfl)) (cons (opv (Ev.add_i (.t rfl) (.c (v := I 1) rfl) (fun _ => by omega)) ?_)))))))
          refine cons (opv (Ev.assign (.t rfl)) (nil (pN (nx (X := Int) (i1 + 1) ⟨?_, ?_⟩ ?_))))
          · try dsimp only
            omega
          · try dsimp only
            intro j h
            by_cases e : (j : Int) < i1
            · exact hq1 j e
            · obtain rfl : j = i1.toNat := by omega
              exact h4
          · try dsimp only
            omega
      · try simp only [nb] at h3
        refine exit (pX (pX (bX (pN (seq (seq (region (cons (opv (Ev.assign (.c (v := I 0) rfl)) ?_)))))))))
        refine nil (pN (block (lp (X := Int) (fun x : Int => (0 ≤ x ∧ x ≤ l.xs.length) ∧ (∀ j : Nat, j < x → l.xs.countP (SMirrorConf.eqb (l.xs.getD j eMirrorConf.zero)) = k.xs.countP (SMirrorConf.eqb (l.xs.getD j eMirrorConf.zero)))) (fun x : Int => [(2, true, .pointer (some ⟨b1, 0, none⟩)), (3, true, .pointer (some ⟨b2, 0, none⟩)), (7, true, I x)]) (fun x : Int => [Var b2 eConf b 28, Var b1 eConf a 28]) (fun x : Int => (l.xs.length - x).toNat) (0) ⟨?_, ?_⟩ (fun x hx => ?_))))
        · omega
        · intro j h; omega
        obtain ⟨i2, rfl⟩ : ∃ y, y = x := ⟨x, rfl⟩
        obtain ⟨hi2, hq2⟩ : (0 ≤ i2 ∧ i2 ≤ l.xs.length) ∧ (∀ j : Nat, j < i2 → l.xs.countP (SMirrorConf.eqb (l.xs.getD j eMirrorConf.zero)) = k.xs.countP (SMirrorConf.eqb (l.xs.getD j eMirrorConf.zero))) := hx
        show Sat _ _ [(2, true, .pointer (some ⟨b1, 0, none⟩)), (3, true, .pointer (some ⟨b2, 0, none⟩)), (7, true, I i2)] [Var b2 eConf b 28, Var b1 eConf a 28]
        refine seq (seq (region (cons (opv (Ev.move (.t rfl)) (cons (opv (Ev.fieldAddr (o := 4) (.t rfl) (by kernel_rfl)) ?_))))))
        refine cons (opv (Ev.ldx a.mirrors ty26 (.t rfl) SConf.l_mirrors) ?_)
        refine cons (opv (Ev.len Tryz.underlying26 (.t rfl) (fun w I => (ha.keep0 I.keeps).xs)) ?_)
        refine cons (opv (Ev.lss_i (.t rfl) (.t rfl)) ?_)
        refine nil (pN ?_)
        first | refine condD rfl (fun h5 => ?_) (fun h5 => ?_) | refine cond rfl (fun h5 => ?_) (fun h5 => ?_)
        · try simp only [nb] at h5
          refine skip (pN (seq (block (seq (draw' (by kernel_rfl) ?_)))))
          refine tk 0 rfl (Ev.fieldAddr (o := 4) (.t rfl) (by kernel_rfl)) ?_
          refine tk 1 rfl (Ev.ldx a.mirrors ty26 (.t rfl) SConf.l_mirrors) ?_
          refine tk 2 rfl (Ev.fieldAddr (o := 4) (.t rfl) (by kernel_rfl)) ?_
          refine tk 3 rfl (Ev.ldx a.mirrors ty26 (.t rfl) SConf.l_mirrors) ?_
          refine tk 4 rfl (Ev.move (.t rfl)) ?_
          refine tk 5 rfl (Ev.indexAddr Tryz.underlying26 ty59 (.t rfl) (.t rfl) (fun w I => (ha.keep0 I.keeps).xs) (fun _ => by omega)) ?_
          refine tk 6 rfl (Ev.loadS0 ty59 (.t rfl) (fun w I => (ha.keep0 I.keeps).xs) (fun _ => by omega)) ?_
          refine tk 8 rfl (Ev.fieldAddr (o := 4) (.t rfl) (by kernel_rfl)) ?_
          refine tk 9 rfl (Ev.ldx b.mirrors ty26 (.t rfl) SConf.l_mirrors) ?_
          refine tk 10 rfl (Ev.fieldAddr (o := 4) (.t rfl) (by kernel_rfl)) ?_
          refine tk 11 rfl (Ev.ldx a.mirrors ty26 (.t rfl) SConf.l_mirrors) ?_
          refine tk 12 rfl (Ev.move (.t rfl)) ?_
          refine tk 13 rfl (Ev.indexAddr Tryz.underlying26 ty59 (.t rfl) (.t rfl) (fun w I => (ha.keep0 I.keeps).xs) (fun _ => by omega)) ?_
          refine tk 14 rfl (Ev.loadS0 ty59 (.t rfl) (fun w I => (ha.keep0 I.keeps).xs) (fun _ => by omega)) ?_
          refine al1 7 rfl ((callv en62 (.cons (.t rfl) (.cons (.t rfl) .nil)) (fun w I => rmirrors_n _ _ _ w ((ha.keep0 I.keeps).xs)) ?_))
          refine hdn (al1 15 rfl ((callv en62 (.cons (.t rfl) (.cons (.t rfl) .nil)) (fun w I => rmirrors_n _ _ _ w ((hb.keep0 I.keeps).xs)) ?_)))
          refine hdn (tk 16 rfl (Ev.neq_i (.t rfl) (.t rfl)) ?_)
          refine ovr (pN ?_)
          first | refine condD rfl (fun h6 => ?_) (fun h6 => ?_) | refine cond rfl (fun h6 => ?_) (fun h6 => ?_)
          · replace h6 : ¬ l.xs.countP (SMirrorConf.eqb (l.xs.getD i2.toNat eMirrorConf.zero)) = k.xs.countP (SMirrorConf.eqb (l.xs.getD i2.toNat eMirrorConf.zero)) := by omega
            refine seq (region (cons (opv (Ev.assign (.c (v := .bool false) rfl)) ?_)))
            refine nil (pN (ret (bR (pR (pR (bR (pR (done rfl (.tmp rfl .nil) (retE ?_)))))))))
            have hh : cntB SMirrorConf.eqb l.xs k.xs = false := cntB_no eMirrorConf.zero i2.toNat (by omega) h6
            rw [sameB_R, hh]; simp [tupV]
          · replace h6 : l.xs.countP (SMirrorConf.eqb (l.xs.getD i2.toNat eMirrorConf.zero)) = k.xs.countP (SMirrorConf.eqb (l.xs.getD i2.toNat eMirrorConf.zero)) := by omega
            refine skip (bN (pN (region (cons (opv (Ev.move (.t rfl)) (cons (opv (Ev.add_i (.t rfl) (.c (v := I 1) rfl) (fun _ => by omega)) ?_)))))))
            refine cons (opv (Ev.assign (.t rfl)) (nil (pN (nx (X := Int) (i2 + 1) ⟨?_, ?_⟩ ?_))))
            · try dsimp only
              omega
            · try dsimp only
              intro j h
              by_cases e : (j : Int) < i2
              · exact hq2 j e
              · obtain rfl : j = i2.toNat := by omega
                exact h6
            · try dsimp only
              omega
        · try simp only [nb] at h5
          refine exit (pX (pX (bX (pN (seq (region (cons (opv (Ev.assign (.c (v := .bool true) rfl)) ?_))))))))
          refine nil (pN (ret (done rfl (.tmp rfl .nil) (retE ?_))))
          rw [sameB_R, hhd, cntB_yes eRoute.zero (fun j hj => hq0 j (by omega)), cntB_yes eMeterConf.zero (fun j hj => hq1 j (by omega)), cntB_yes eMirrorConf.zero (fun j hj => hq2 j (by omega))]; rfl
theorem en22 : Gx.Enters Tryz.prog 22 := Gx.Enters.mk' (by kernel_rfl)
theorem rexact_ok (a b : SConf) (l k : CL) (w : World) (ha : ConfAt w a l) (hb : ConfAt w b k) : Calls Tryz.prog 17 #[eConf.val a, eConf.val b] w (RetV w (.bool (exactB l k a.default b.default))) := by
  have hla0 := ha.ps.le
  have hlb0 := hb.ps.le
  have hla1 := ha.rs.le
  have hlb1 := hb.rs.le
  have hla2 := ha.us.le
  have hlb2 := hb.us.le
  have hla3 := ha.ms.le
  have hlb3 := hb.ms.le
  have hla4 := ha.xs.le
  have hlb4 := hb.xs.le
  refine enter0 66 Tryz.func17 rfl rfl (Nat.le_of_ble_eq_true rfl) ?_
  refine seq (region (cons (box (E := eConf) (.t rfl) (fun b1 => ?_))))
  refine cons (box (E := eConf) (.t rfl) (fun b2 => ?_))
  refine cons (opv (Ev.assign (.c (v := .bool false) rfl)) ?_)
  refine nil (pN (seq (seq (region (cons (opv (Ev.ldx a ty28 (.t rfl) (Lens.id _)) ?_))))))
  refine cons (opv (Ev.ldx b ty28 (.t rfl) (Lens.id _)) ?_)
  refine cons (callv en22 (.cons (.t rfl) (.cons (.t rfl) .nil)) (fun w I => rsame_ok a b l k w (ha.keep0 I.keeps) (hb.keep0 I.keeps)) ?_)
  refine cons (opv (Ev.not (.t rfl)) ?_)
  refine nil (pN ?_)
  first | refine condD rfl (fun h0 => ?_) (fun h0 => ?_) | refine cond rfl (fun h0 => ?_) (fun h0 => ?_)
  · refine seq (region (cons (opv (Ev.assign (.c (v := .bool false) rfl)) ?_)))
    refine nil (pN (ret (pR (done rfl (.tmp rfl .nil) (retE ?_)))))
    have hh : exactB l k a.default b.default = false := by
      rw [Bool.eq_false_iff]
      intro h
      obtain ⟨e1, e2, e3, e4, e5, e6⟩ := of_decide_eq_true h
      have hp := (sameB_perm l k a.default b.default).2 ⟨e1, e2, e3, by rw [e4], by rw [e5], by rw [e6]⟩
      simp [hp] at h0
    rw [hh]; rfl
  · have hsm := (sameB_perm l k a.default b.default).1 (by simpa using h0)
    have hn4 := hsm.2.2.2.1.length_eq
    have hn5 := hsm.2.2.2.2.1.length_eq
    have hn6 := hsm.2.2.2.2.2.length_eq
    refine skip (pN (seq (seq (region (cons (opv (Ev.assign (.c (v := I 0) rfl)) ?_))))))
    refine nil (pN (block (lp (X := Int) (fun x : Int => (0 ≤ x ∧ x ≤ l.rs.length) ∧ (∀ j : Nat, j < x → l.rs.getD j eRoute.zero = k.rs.getD j eRoute.zero)) (fun x : Int => [(2, true, .pointer (some ⟨b1, 0, none⟩)), (3, true, .pointer (some ⟨b2, 0, none⟩)), (5, true, I x)]) (fun x : Int => [Var b2 eConf b 28, Var b1 eConf a 28]) (fun x : Int => (l.rs.length - x).toNat) (0) ⟨?_, ?_⟩ (fun x hx => ?_))))
    · omega
    · intro j h; omega
    obtain ⟨i0, rfl⟩ : ∃ y, y = x := ⟨x, rfl⟩
    obtain ⟨hi0, hq0⟩ : (0 ≤ i0 ∧ i0 ≤ l.rs.length) ∧ (∀ j : Nat, j < i0 → l.rs.getD j eRoute.zero = k.rs.getD j eRoute.zero) := hx
    show Sat _ _ [(2, true, .pointer (some ⟨b1, 0, none⟩)), (3, true, .pointer (some ⟨b2, 0, none⟩)), (5, true, I i0)] [Var b2 eConf b 28, Var b1 eConf a 28]
    refine seq (seq (region (cons (opv (Ev.move (.t rfl)) (cons (opv (Ev.fieldAddr (o := 1) (.t rfl) (by kernel_rfl)) ?_))))))
    refine cons (opv (Ev.ldx a.routes ty23 (.t rfl) SConf.l_routes) ?_)
    refine cons (opv (Ev.len Tryz.underlying23 (.t rfl) (fun w I => (ha.keep0 I.keeps).rs)) ?_)
    refine cons (opv (Ev.lss_i (.t rfl) (.t rfl)) ?_)
    refine nil (pN ?_)
    first | refine condD rfl (fun h1 => ?_) (fun h1 => ?_) | refine cond rfl (fun h1 => ?_) (fun h1 => ?_)
    · try simp only [nb] at h1
      refine skip (pN (seq (block (seq (draw' (by kernel_rfl) ?_)))))
      refine tk 0 rfl (Ev.fieldAddr (o := 1) (.t rfl) (by kernel_rfl)) ?_
      refine tk 1 rfl (Ev.ldx a.routes ty23 (.t rfl) SConf.l_routes) ?_
      refine tk 2 rfl (Ev.move (.t rfl)) ?_
      refine tk 3 rfl (Ev.indexAddr Tryz.underlying23 ty52 (.t rfl) (.t rfl) (fun w I => (ha.keep0 I.keeps).rs) (fun _ => by omega)) ?_
      refine tk 4 rfl (Ev.loadS0 ty52 (.t rfl) (fun w I => (ha.keep0 I.keeps).rs) (fun _ => by omega)) ?_
      refine tk 5 rfl (Ev.fieldAddr (o := 1) (.t rfl) (by kernel_rfl)) ?_
      refine tk 6 rfl (Ev.ldx b.routes ty23 (.t rfl) SConf.l_routes) ?_
      refine tk 7 rfl (Ev.move (.t rfl)) ?_
      refine tk 8 rfl (Ev.indexAddr Tryz.underlying23 ty52 (.t rfl) (.t rfl) (fun w I => (hb.keep0 I.keeps).rs) (fun _ => by omega)) ?_
      refine tk 9 rfl (Ev.loadS0 ty52 (.t rfl) (fun w I => (hb.keep0 I.keeps).rs) (fun _ => by omega)) ?_
      refine tk 10 rfl (Ev.neqS rfl eqok52 rfl (by kernel_rfl) (.t rfl) (.t rfl)) ?_
      refine ovr (pN ?_)
      first | refine condD rfl (fun h2 => ?_) (fun h2 => ?_) | refine cond rfl (fun h2 => ?_) (fun h2 => ?_)
      · refine seq (region (cons (opv (Ev.assign (.c (v := .bool false) rfl)) ?_)))
        refine nil (pN (ret (bR (pR (pR (bR (pR (done rfl (.tmp rfl .nil) (retE ?_)))))))))
        have hh : exactB l k a.default b.default = false := by
          rw [Bool.eq_false_iff]
          intro h
          obtain ⟨e1, e2, e3, e4, e5, e6⟩ := of_decide_eq_true h
          rw [e4] at h2
          simp at h2
        rw [hh]; rfl
      · refine skip (bN (pN (region (cons (opv (Ev.move (.t rfl)) (cons (opv (Ev.add_i (.t rfl) (.c (v := I 1) rfl) (fun _ => by omega)) ?_)))))))
        refine cons (opv (Ev.assign (.t rfl)) (nil (pN (nx (X := Int) (i0 + 1) ⟨?_, ?_⟩ ?_))))
        · try dsimp only
          omega
        · try dsimp only
          intro j h
          by_cases e : (j : Int) < i0
          · exact hq0 j e
          · obtain rfl : j = i0.toNat := by omega
            simpa using h2
        · try dsimp only
          omega
    · try simp only [nb] at h1
      refine exit (pX (pX (bX (pN (seq (seq (region (cons (opv (Ev.assign (.c (v := I 0) rfl)) ?_)))))))))
      refine nil (pN (block (lp (X := Int) (fun x : Int => (0 ≤ x ∧ x ≤ l.ms.length) ∧ (∀ j : Nat, j < x → l.ms.getD j eMeterConf.zero = k.ms.getD j eMeterConf.zero)) (fun x : Int => [(2, true, .pointer (some ⟨b1, 0, none⟩)), (3, true, .pointer (some ⟨b2, 0, none⟩)), (6, true, I x)]) (fun x : Int => [Var b2 eConf b 28, Var b1 eConf a 28]) (fun x : Int => (l.ms.length - x).toNat) (0) ⟨?_, ?_⟩ (fun x hx => ?_))))
      · omega
      · intro j h; omega
      obtain ⟨i1, rfl⟩ : ∃ y, y = x := ⟨x, rfl⟩
      obtain ⟨hi1, hq1⟩ : (0 ≤ i1 ∧ i1 ≤ l.ms.length) ∧ (∀ j : Nat, j < i1 → l.ms.getD j eMeterConf.zero = k.ms.getD j eMeterConf.zero) := hx
      show Sat _ _ [(2, true, .pointer (some ⟨b1, 0, none⟩)), (3, true, .pointer (some ⟨b2, 0, none⟩)), (6, true, I i1)] [Var b2 eConf b 28, Var b1 eConf a 28]
      refine seq (seq (region (cons (opv (Ev.move (.t rfl)) (cons (opv (Ev.fieldAddr (o := 3) (.t rfl) (by kernel_rfl)) ?_))))))
      refine cons (opv (Ev.ldx a.meters ty25 (.t rfl) SConf.l_meters) ?_)
      refine cons (opv (Ev.len Tryz.underlying25 (.t rfl) (fun w I => (ha.keep0 I.keeps).ms)) ?_)
      refine cons (opv (Ev.lss_i (.t rfl) (.t rfl)) ?_)
      refine nil (pN ?_)
      first | refine condD rfl (fun h3 => ?_) (fun h3 => ?_) | refine cond rfl (fun h3 => ?_) (fun h3 => ?_)
      · try simp only [nb] at h3
        refine skip (pN (seq (block (seq (draw' (by kernel_rfl) ?_)))))
        refine tk 0 rfl (Ev.fieldAddr (o := 3) (.t rfl) (by kernel_rfl)) ?_
        refine tk 1 rfl (Ev.ldx a.meters ty25 (.t rfl) SConf.l_meters) ?_
        refine tk 2 rfl (Ev.move (.t rfl)) ?_
        refine tk 3 rfl (Ev.indexAddr Tryz.underlying25 ty57 (.t rfl) (.t rfl) (fun w I => (ha.keep0 I.keeps).ms) (fun _ => by omega)) ?_
        refine tk 4 rfl (Ev.loadS0 ty57 (.t rfl) (fun w I => (ha.keep0 I.keeps).ms) (fun _ => by omega)) ?_
        refine tk 5 rfl (Ev.fieldAddr (o := 3) (.t rfl) (by kernel_rfl)) ?_
        refine tk 6 rfl (Ev.ldx b.meters ty25 (.t rfl) SConf.l_meters) ?_
        refine tk 7 rfl (Ev.move (.t rfl)) ?_
        refine tk 8 rfl (Ev.indexAddr Tryz.underlying25 ty57 (.t rfl) (.t rfl) (fun w I => (hb.keep0 I.keeps).ms) (fun _ => by omega)) ?_
        refine tk 9 rfl (Ev.loadS0 ty57 (.t rfl) (fun w I => (hb.keep0 I.keeps).ms) (fun _ => by omega)) ?_
        refine tk 10 rfl (Ev.neqS rfl eqok57 rfl (by kernel_rfl) (.t rfl) (.t rfl)) ?_
        refine ovr (pN ?_)
        first | refine condD rfl (fun h4 => ?_) (fun h4 => ?_) | refine cond rfl (fun h4 => ?_) (fun h4 => ?_)
        · refine seq (region (cons (opv (Ev.assign (.c (v := .bool false) rfl)) ?_)))
          refine nil (pN (ret (bR (pR (pR (bR (pR (done rfl (.tmp rfl .nil) (retE ?_)))))))))
          have hh : exactB l k a.default b.default = false := by
            rw [Bool.eq_false_iff]
            intro h
            obtain ⟨e1, e2, e3, e4, e5, e6⟩ := of_decide_eq_true h
            rw [e5] at h4
            simp at h4
          rw [hh]; rfl
        · refine skip (bN (pN (region (cons (opv (Ev.move (.t rfl)) (cons (opv (Ev.add_i (.t rfl) (.c (v := I 1) rfl) (fun _ => by omega)) ?_)))))))
          refine cons (opv (Ev.assign (.t rfl)) (nil (pN (nx (X := Int) (i1 + 1) ⟨?_, ?_⟩ ?_))))
          · try dsimp only
            omega
          · try dsimp only
            intro j h
            by_cases e : (j : Int) < i1
            · exact hq1 j e
            · obtain rfl : j = i1.toNat := by omega
              simpa using h4
          · try dsimp only
            omega
      · try simp only [nb] at h3
        refine exit (pX (pX (bX (pN (seq (seq (region (cons (opv (Ev.assign (.c (v := I 0) rfl)) ?_)))))))))
        refine nil (pN (block (lp (X := Int) (fun x : Int => (0 ≤ x ∧ x ≤ l.xs.length) ∧ (∀ j : Nat, j < x → l.xs.getD j eMirrorConf.zero = k.xs.getD j eMirrorConf.zero)) (fun x : Int => [(2, true, .pointer (some ⟨b1, 0, none⟩)), (3, true, .pointer (some ⟨b2, 0, none⟩)), (7, true, I x)]) (fun x : Int => [Var b2 eConf b 28, Var b1 eConf a 28]) (fun x : Int => (l.xs.length - x).toNat) (0) ⟨?_, ?_⟩ (fun x hx => ?_))))
        · omega
        · intro j h; omega
        obtain ⟨i2, rfl⟩ : ∃ y, y = x := ⟨x, rfl⟩
        obtain ⟨hi2, hq2⟩ : (0 ≤ i2 ∧ i2 ≤ l.xs.length) ∧ (∀ j : Nat, j < i2 → l.xs.getD j eMirrorConf.zero = k.xs.getD j eMirrorConf.zero) := hx
        show Sat _ _ [(2, true, .pointer (some ⟨b1, 0, none⟩)), (3, true, .pointer (some ⟨b2, 0, none⟩)), (7, true, I i2)] [Var b2 eConf b 28, Var b1 eConf a 28]
        refine seq (seq (region (cons (opv (Ev.move (.t rfl)) (cons (opv (Ev.fieldAddr (o := 4) (.t rfl) (by kernel_rfl)) ?_))))))
        refine cons (opv (Ev.ldx a.mirrors ty26 (.t rfl) SConf.l_mirrors) ?_)
        refine cons (opv (Ev.len Tryz.underlying26 (.t rfl) (fun w I => (ha.keep0 I.keeps).xs)) ?_)
        refine cons (opv (Ev.lss_i (.t rfl) (.t rfl)) ?_)
        refine nil (pN ?_)
        first | refine condD rfl (fun h5 => ?_) (fun h5 => ?_) | refine cond rfl (fun h5 => ?_) (fun h5 => ?_)
        · try simp only [nb] at h5
          refine skip (pN (seq (block (seq (draw' (by kernel_rfl) ?_)))))
          refine tk 0 rfl (Ev.fieldAddr (o := 4) (.t rfl) (by kernel_rfl)) ?_
          refine tk 1 rfl (Ev.ldx a.mirrors ty26 (.t rfl) SConf.l_mirrors) ?_
          refine tk 2 rfl (Ev.move (.t rfl)) ?_
          refine tk 3 rfl (Ev.indexAddr Tryz.underlying26 ty59 (.t rfl) (.t rfl) (fun w I => (ha.keep0 I.keeps).xs) (fun _ => by omega)) ?_
          refine tk 4 rfl (Ev.loadS0 ty59 (.t rfl) (fun w I => (ha.keep0 I.keeps).xs) (fun _ => by omega)) ?_
          refine tk 5 rfl (Ev.fieldAddr (o := 4) (.t rfl) (by kernel_rfl)) ?_
          refine tk 6 rfl (Ev.ldx b.mirrors ty26 (.t rfl) SConf.l_mirrors) ?_
          refine tk 7 rfl (Ev.move (.t rfl)) ?_
          refine tk 8 rfl (Ev.indexAddr Tryz.underlying26 ty59 (.t rfl) (.t rfl) (fun w I => (hb.keep0 I.keeps).xs) (fun _ => by omega)) ?_
          refine tk 9 rfl (Ev.loadS0 ty59 (.t rfl) (fun w I => (hb.keep0 I.keeps).xs) (fun _ => by omega)) ?_
          refine tk 10 rfl (Ev.neqS rfl eqok59 rfl (by kernel_rfl) (.t rfl) (.t rfl)) ?_
          refine ovr (pN ?_)
          first | refine condD rfl (fun h6 => ?_) (fun h6 => ?_) | refine cond rfl (fun h6 => ?_) (fun h6 => ?_)
          · refine seq (region (cons (opv (Ev.assign (.c (v := .bool false) rfl)) ?_)))
            refine nil (pN (ret (bR (pR (pR (bR (pR (done rfl (.tmp rfl .nil) (retE ?_)))))))))
            have hh : exactB l k a.default b.default = false := by
              rw [Bool.eq_false_iff]
              intro h
              obtain ⟨e1, e2, e3, e4, e5, e6⟩ := of_decide_eq_true h
              rw [e6] at h6
              simp at h6
            rw [hh]; rfl
          · refine skip (bN (pN (region (cons (opv (Ev.move (.t rfl)) (cons (opv (Ev.add_i (.t rfl) (.c (v := I 1) rfl) (fun _ => by omega)) ?_)))))))
            refine cons (opv (Ev.assign (.t rfl)) (nil (pN (nx (X := Int) (i2 + 1) ⟨?_, ?_⟩ ?_))))
            · try dsimp only
              omega
            · try dsimp only
              intro j h
              by_cases e : (j : Int) < i2
              · exact hq2 j e
              · obtain rfl : j = i2.toNat := by omega
                simpa using h6
            · try dsimp only
              omega
        · try simp only [nb] at h5
          refine exit (pX (pX (bX (pN (seq (region (cons (opv (Ev.assign (.c (v := .bool true) rfl)) ?_))))))))
          refine nil (pN (ret (done rfl (.tmp rfl .nil) (retE ?_))))
          have hh : exactB l k a.default b.default = true := decide_eq_true ⟨hsm.1, hsm.2.1, hsm.2.2.1, eq_getD eRoute.zero (by omega) (fun j hj => hq0 j (by omega)), eq_getD eMeterConf.zero (by omega) (fun j hj => hq1 j (by omega)), eq_getD eMirrorConf.zero (by omega) (fun j hj => hq2 j (by omega))⟩
          rw [hh]; rfl
theorem mo5 {K : Ctx} {L : List Res} {x : CB} {l : CL} {d : Int} (w : World) (I : WInv K L w) (h0 : OwnS x.o1.v iE (markL l).ps 3 ∈ L := by repeat first | exact mH | apply mT | apply mA) (h1 : OwnS x.o2.v eRoute (markL l).rs 52 ∈ L := by repeat first | exact mH | apply mT | apply mA) (h2 : OwnS x.o3.v eRule (markL l).us 76 ∈ L := by repeat first | exact mH | apply mT | apply mA) (h3 : OwnS x.o4.v eMeterConf (markL l).ms 57 ∈ L := by repeat first | exact mH | apply mT | apply mA) (h4 : OwnS x.o5.v eMirrorConf (markL l).xs 59 ∈ L := by repeat first | exact mH | apply mT | apply mA) : ConfAt w ((subC x l).c d) l := (co5 (d := d) w I h0 h1 h2 h3 h4).sub
theorem CL.Small.n {l : CL} (h : l.Small) : l.n ≤ 4611686018427387904 := by
  obtain ⟨h1, h2, h3, h4, h5⟩ := h
  unfold CL.n
  omega
theorem takeC_small (l : CL) {n : Nat} (h : n ≤ 2000) : (takeC l n).Small := by
  obtain ⟨h1, h2, h3, h4, h5⟩ := takeC_len l n
  exact ⟨by omega, by omega, by omega, by omega, by omega⟩
theorem takeC_names {l : CL} (h : l.Names) (n : Nat) : (takeC l n).Names := ⟨fun x hx => h.us x (List.mem_of_mem_take hx), fun x hx => h.ms x (List.mem_of_mem_take hx), fun x hx => h.xs x (List.mem_of_mem_take hx)⟩
theorem en10 : Gx.Enters Tryz.prog 10 := Gx.Enters.mk' (by kernel_rfl)
theorem en11 : Gx.Enters Tryz.prog 11 := Gx.Enters.mk' (by kernel_rfl)
theorem en13 : Gx.Enters Tryz.prog 13 := Gx.Enters.mk' (by kernel_rfl)
theorem en17 : Gx.Enters Tryz.prog 17 := Gx.Enters.mk' (by kernel_rfl)
theorem en18 : Gx.Enters Tryz.prog 18 := Gx.Enters.mk' (by kernel_rfl)
theorem en19 : Gx.Enters Tryz.prog 19 := Gx.Enters.mk' (by kernel_rfl)
theorem en20 : Gx.Enters Tryz.prog 20 := Gx.Enters.mk' (by kernel_rfl)
structure CL.Few (l : CL) : Prop where
  ps : l.ps.length ≤ 2000
  rs : l.rs.length ≤ 2000
  us : l.us.length ≤ 2000
  ms : l.ms.length ≤ 2000
  xs : l.xs.length ≤ 2000
theorem rmay_ok (c : SConf) (l : CL) (w : World) (hc : ConfAt w c l) (hn : l.Names) (hz : l.n ≤ 4611686018427387904) : Calls Tryz.prog 89 #[eConf.val c] w (RetV w (.bool (mayB l c.default))) := by
  refine enter0 7 Tryz.func89 rfl rfl (Nat.le_of_ble_eq_true rfl) ?_
  refine seq (region (cons (box (E := eConf) (.t rfl) (fun b1 => ?_))))
  refine cons (opv (Ev.assign (.c (v := .bool false) rfl)) ?_)
  refine nil (pN (seq (region (cons (opv (Ev.ldx c ty28 (.t rfl) (Lens.id _)) ?_)))))
  refine cons (callo en13 (.cons (.t rfl) .nil) (fun w I => rcheck_conf c l w (hc.keep0 I.keeps) hn hz) (fun v2 => ?_))
  refine cons (opv (Ev.len Tryz.underlying31 (.t rfl) (by first | exact isSl_own (by repeat first | exact mH | apply mT | apply mA) | exact fun w I => IsSl.keep0 (by assumption) I.keeps)) ?_)
  refine cons (opv (Ev.eql_i (.t rfl) (.c (v := I 0) rfl)) ?_)
  refine cons (opv (Ev.assign (.t rfl)) (nil (pN (ret (done rfl (.tmp rfl .nil) (retE ?_))))))
  unfold mayB
  refine congrArg Value.bool ?_
  rw [Bool.eq_iff_iff, decide_eq_true_iff, decide_eq_true_iff, ← List.length_eq_zero_iff]
  omega
end Go.Proofs.YtnoobdijbpmjkaaGreat
