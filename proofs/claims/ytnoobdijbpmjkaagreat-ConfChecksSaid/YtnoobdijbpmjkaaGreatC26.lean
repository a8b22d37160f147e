/- conf -/
import Derived.Test.YtnoobdijbpmjkaaGreatC25
set_option linter.unusedVariables false
set_option linter.unusedSimpArgs false
namespace Go.Proofs.YtnoobdijbpmjkaaGreat
open Go Go.Gx

theorem str_get {s : ByteArray} {i : Nat} (h : i < s.size) : s[i]? = some (s.get! i) := by
  have h2 : s.get! i = s[i] := by
    cases s with
    | mk bs =>
      show bs[i]! = bs[i]
      exact getElem!_pos bs i h
  rw [h2]
  exact getElem?_pos s i h
def nameU (c : UInt8) (i : Int) : Bool := (decide (97 ≤ c) && decide (c ≤ 122)) || (!decide (i = 0) && (((decide (48 ≤ c) && decide (c ≤ 57)) || decide (c = 45)) || decide (c = 95)))
theorem nameU_eq (c : UInt8) {i : Int} (h : 0 ≤ i) : nameU c i = nameC c.toNat i := by
  have key : ∀ n : Fin 256, (decide (97 ≤ UInt8.ofNat n.val) = decide (97 ≤ (n.val : Int))) ∧ (decide (UInt8.ofNat n.val ≤ 122) = decide ((n.val : Int) ≤ 122)) ∧ (decide (48 ≤ UInt8.ofNat n.val) = decide (48 ≤ (n.val : Int))) ∧ (decide (UInt8.ofNat n.val ≤ 57) = decide ((n.val : Int) ≤ 57)) ∧ (decide (UInt8.ofNat n.val = 45) = decide ((n.val : Int) = 45)) ∧ (decide (UInt8.ofNat n.val = 95) = decide ((n.val : Int) = 95)) := by decide +kernel
  obtain ⟨k1, k2, k3, k4, k5, k6⟩ := key ⟨c.toNat, c.toNat_lt⟩
  simp only [UInt8.ofNat_toNat] at k1 k2 k3 k4 k5 k6
  unfold nameU nameC
  rw [k1, k2, k3, k4, k5, k6]
  have e : (!decide (i = 0)) = decide (0 < i) := by
    by_cases h0 : i = 0
    · simp [h0]
    · have : 0 < i := by omega
      simp [h0, this]
  rw [e]
theorem name_key : ∀ A B C : Bool, (!A && (B || !C)) = !(A || (!B && C)) := by decide
theorem nameB_no {s : ByteArray} {i : Nat} (h : i < s.size) (hb : nameC (s.get! i).toNat i = false) : nameB s = false := by
  unfold nameB
  have : (List.range s.size).all (fun k => nameC (s.get! k).toNat k) = false := List.all_eq_false.2 ⟨i, List.mem_range.2 h, by simp [hb]⟩
  rw [this, Bool.and_false]
theorem nameB_yes {s : ByteArray} (h0 : 1 ≤ s.size ∧ s.size ≤ 16) (hq : ∀ k, k < s.size → nameC (s.get! k).toNat k = true) : nameB s = true := by
  have h : (decide (s.size = 0) || decide (16 < s.size)) = false := by rw [Bool.or_eq_false_iff, decide_eq_false_iff_not, decide_eq_false_iff_not]; omega
  unfold nameB
  rw [h]
  exact List.all_eq_true.2 fun k hk => hq k (List.mem_range.1 hk)
theorem nameB_len {s : ByteArray} (h : s.size < 1 ∨ 16 < s.size) : nameB s = false := by
  have h : (decide (s.size = 0) || decide (16 < s.size)) = true := by rw [Bool.or_eq_true, decide_eq_true_eq, decide_eq_true_eq]; omega
  unfold nameB
  rw [h]
  rfl
theorem u8_mod2 (y : UInt8) : y % 2 = y &&& 1 := by
  apply UInt8.toNat_inj.1
  rw [UInt8.toNat_and, UInt8.toNat_mod]
  have e : UInt8.toNat 1 = 1 := rfl
  have e2 : UInt8.toNat 2 = 2 := rfl
  rw [e, e2, Nat.and_one_is_mod]
theorem checkA_bytes (a : SAddr) : checkA a = 0 ↔ ∀ k : Nat, wd a / 8 ≤ k → k < 16 → a.b.toList.getD k 0 = 0 := by
  have hw : wd a = 32 ∨ wd a = 128 := by unfold wd; cases a.v6 <;> simp
  rw [checkA_zero]
  constructor
  · intro h k h1 h2
    have hm := (mk1_iff (a.b.toList.getD k 0) 0).2 (fun j hj _ => by
      rw [← bitU_at _ _ _ hj]
      exact h _ (by omega) (by omega))
    rw [← hm]
    rfl
  · intro h i h1 h2
    have e : i = 8 * ((i / 8).toNat : Int) + ((i % 8).toNat : Int) := by omega
    rw [e, bitU_at _ _ _ (by omega), h _ (by omega) (by omega)]
    have : ∀ j : Fin 8, bitOf 0 j.val = 0 := by decide
    exact this ⟨(i % 8).toNat, by omega⟩
def rooms : List Int := [2, 4, 8, 16, 32, 64, 128, 256, 512, 1024]
theorem roomB_iff (n : Int) : roomB n = true ↔ n ∈ rooms := by
  have key : ∀ m : Fin 1025, decide (2 ≤ m.val ∧ m.val ≤ 1024 ∧ m.val &&& (m.val - 1) = 0) = decide ((m.val : Int) ∈ rooms) := by decide +kernel
  unfold roomB
  rw [decide_eq_true_iff]
  by_cases h : 0 ≤ n ∧ n ≤ 1024
  · have h2 := key ⟨n.toNat, by omega⟩
    have e : ((n.toNat : Nat) : Int) = n := by omega
    simp only [e] at h2
    rw [Bool.eq_iff_iff, decide_eq_true_iff, decide_eq_true_iff] at h2
    rw [← h2]
    constructor
    · rintro ⟨h3, h4, h5⟩
      exact ⟨by omega, by omega, h5⟩
    · rintro ⟨h3, h4, h5⟩
      exact ⟨by omega, by omega, h5⟩
  · constructor
    · rintro ⟨h3, h4, h5⟩
      omega
    · intro h3
      have : ∀ x ∈ rooms, 0 ≤ x ∧ x ≤ 1024 := by decide
      have := this n h3
      omega

theorem rname_ok (s : ByteArray) (w : World) (hs : s.size ≤ 9223372036854775807) : Calls Tryz.prog 155 #[.string s] w (RetV w (.bool (nameB s))) := by
  refine enter0 54 Tryz.func155 rfl rfl (Nat.le_of_ble_eq_true rfl) ?_
  refine seq (region (cons (opv (Ev.assign (.c (v := .bool false) rfl)) ?_)))
  refine nil (pN (seq (seq (region (cons (opv (Ev.move (.t rfl)) (cons (opv (Ev.lenS Tryz.underlying9 (.t rfl)) ?_))))))))
  refine cons (opv (Ev.lss_i (.t rfl) (.c (v := I 1) rfl)) ?_)
  refine cons (opv (Ev.move (.t rfl)) (cons (opg rfl rfl (Ev.move (.t rfl)) ?_)))
  refine cons (opg rfl rfl (Ev.lenS Tryz.underlying9 (.g rfl id)) ?_)
  refine cons (opg rfl rfl (Ev.gtr_i (.g rfl id) (.c (v := I 16) rfl)) ?_)
  refine cons (opv (Ev.pickO (.t rfl) (.c (v := .bool true) rfl) (fun {_} h => by cases h; rfl) ⟨_, rfl⟩ (by intro h1 h; first | (rw [h] <;> rfl) | (rw [h1, h] <;> rfl) | (rw [h, h1] <;> rfl) | simp_all)) ?_)
  refine nil (pN ?_)
  first | refine condD rfl (fun h0 => ?_) (fun h0 => ?_) | refine cond rfl (fun h0 => ?_) (fun h0 => ?_)
  · try simp only [nb] at h0
    refine seq (region (cons (opv (Ev.assign (.c (v := .bool false) rfl)) ?_)))
    refine nil (pN (ret (pR (done rfl (.tmp rfl .nil) (retE ?_)))))
    rw [nameB_len (by omega)]; rfl
  · try simp only [nb] at h0
    refine skip (pN (seq (seq (region (cons (opv (Ev.assign (.c (v := I 0) rfl)) ?_))))))
    refine nil (pN (block (loop (X := Int) (fun x : Int => (0 ≤ x ∧ x ≤ s.size) ∧ (∀ k : Nat, k < x → nameC (s.get! k).toNat k = true)) (fun x : Int => [(0, true, .string s), (3, true, I x)]) (fun x : Int => []) (fun x : Int => ((s.size : Int) - x).toNat) (0) ⟨?_, ?_⟩ (by repeat first | exact Sub.nil | refine Sub.cons rfl ?_) (by repeat first | exact sR | exact sN | apply sC | apply sS | apply sA) (fun x hx => ?_))))
    · omega
    · intro k h; omega
    obtain ⟨i, rfl⟩ : ∃ y, y = x := ⟨x, rfl⟩
    obtain ⟨hi, hq⟩ : (0 ≤ i ∧ i ≤ s.size) ∧ (∀ k : Nat, k < i → nameC (s.get! k).toNat k = true) := hx
    show Sat _ _ [(0, true, .string s), (3, true, I i)] []
    refine seq (seq (region (cons (opv (Ev.move (.t rfl)) (cons (opv (Ev.move (.t rfl)) (cons (opv (Ev.lenS Tryz.underlying9 (.t rfl)) ?_))))))))
    refine cons (opv (Ev.lss_i (.t rfl) (.t rfl)) ?_)
    refine nil (pN ?_)
    first | refine condD rfl (fun h1 => ?_) (fun h1 => ?_) | refine cond rfl (fun h1 => ?_) (fun h1 => ?_)
    · try simp only [nb] at h1
      refine skip (pN (seq (block (seq (region (cons (opv (Ev.move (.t rfl)) (cons (opv (Ev.move (.t rfl)) (cons (opv (Ev.indexS (b := s.get! i.toNat) (s := s) Tryz.underlying9 (.t rfl) (.t rfl) (fun _ => ⟨by omega, str_get (by omega)⟩)) ?_)))))))))))
      refine cons (opv (Ev.assign (.t rfl)) (nil (pN (seq (region (cons (opv (Ev.move (.t rfl)) (cons (opv (Ev.geq_u8 (.t rfl) (.c (v := U8 97) rfl)) ?_)))))))))
      refine cons (opv (Ev.move (.t rfl)) (cons (opg rfl rfl (Ev.move (.t rfl)) ?_)))
      refine cons (opg rfl rfl (Ev.leq_u8 (.g rfl id) (.c (v := U8 122) rfl)) ?_)
      refine cons (opv (Ev.pickA (.t rfl) (fun {_} h => by cases h; rfl) ⟨_, rfl⟩ (by intro h1 h; first | (rw [h] <;> rfl) | (rw [h1, h] <;> rfl) | (rw [h, h1] <;> rfl) | simp_all) (.c (v := .bool false) rfl)) ?_)
      refine cons (opv (Ev.assign (.t rfl)) (nil (pN (seq (region (cons (opv (Ev.move (.t rfl)) (cons (opv (Ev.geq_u8 (.t rfl) (.c (v := U8 48) rfl)) ?_)))))))))
      refine cons (opv (Ev.move (.t rfl)) (cons (opg rfl rfl (Ev.move (.t rfl)) ?_)))
      refine cons (opg rfl rfl (Ev.leq_u8 (.g rfl id) (.c (v := U8 57) rfl)) ?_)
      refine cons (opv (Ev.pickA (.t rfl) (fun {_} h => by cases h; rfl) ⟨_, rfl⟩ (by intro h1 h; first | (rw [h] <;> rfl) | (rw [h1, h] <;> rfl) | (rw [h, h1] <;> rfl) | simp_all) (.c (v := .bool false) rfl)) ?_)
      refine cons (opv (Ev.move (.t rfl)) (cons (opg rfl rfl (Ev.move (.t rfl)) ?_)))
      refine cons (opg rfl rfl (Ev.eql_u8 (.g rfl id) (.c (v := U8 45) rfl)) ?_)
      refine cons (opv (Ev.pickO (.t rfl) (.c (v := .bool true) rfl) (fun {_} h => by cases h; rfl) ⟨_, rfl⟩ (by intro h1 h; first | (rw [h] <;> rfl) | (rw [h1, h] <;> rfl) | (rw [h, h1] <;> rfl) | simp_all)) ?_)
      refine cons (opv (Ev.move (.t rfl)) (cons (opg rfl rfl (Ev.move (.t rfl)) ?_)))
      refine cons (opg rfl rfl (Ev.eql_u8 (.g rfl id) (.c (v := U8 95) rfl)) ?_)
      refine cons (opv (Ev.pickO (.t rfl) (.c (v := .bool true) rfl) (fun {_} h => by cases h; rfl) ⟨_, rfl⟩ (by intro h1 h; first | (rw [h] <;> rfl) | (rw [h1, h] <;> rfl) | (rw [h, h1] <;> rfl) | simp_all)) ?_)
      refine cons (opv (Ev.assign (.t rfl)) (nil (pN (seq (region (cons (opv (Ev.move (.t rfl)) (cons (opv (Ev.not (.t rfl)) ?_)))))))))
      refine cons (opv (Ev.move (.t rfl)) (cons (opg rfl rfl (Ev.move (.t rfl)) ?_)))
      refine cons (opg rfl rfl (Ev.eql_i (.g rfl id) (.c (v := I 0) rfl)) ?_)
      refine cons (opg rfl rfl (Ev.move (.g rfl id)) ?_)
      refine cons (opg rfl rfl (Ev.move (.t rfl)) ?_)
      refine cons (opg rfl rfl (Ev.not (.g rfl id)) ?_)
      refine cons (opg rfl rfl (Ev.pickO (.g rfl id) (.c (v := .bool true) rfl) (fun {_} h => by cases h; rfl) ⟨_, rfl⟩ (by intro h1 h; first | (rw [h] <;> rfl) | (rw [h1, h] <;> rfl) | (rw [h, h1] <;> rfl) | simp_all)) ?_)
      refine cons (opv (Ev.pickA (.t rfl) (fun {_} h => by cases h; rfl) ⟨_, rfl⟩ (by intro h1 h; first | (rw [h] <;> rfl) | (rw [h1, h] <;> rfl) | (rw [h, h1] <;> rfl) | simp_all) (.c (v := .bool false) rfl)) ?_)
      refine nil (pN ?_)
      first | refine condD rfl (fun h2 => ?_) (fun h2 => ?_) | refine cond rfl (fun h2 => ?_) (fun h2 => ?_)
      · have h2b := (name_key _ _ _).symm.trans h2
        rw [Bool.not_eq_true'] at h2b
        have hu : nameU (s.get! i.toNat) i = false := h2b
        rw [nameU_eq _ (by omega)] at hu
        have ei : ((i.toNat : Nat) : Int) = i := by omega
        rw [← ei] at hu
        simp only [ei, Int.toNat_natCast] at hu
        refine seq (region (cons (opv (Ev.assign (.c (v := .bool false) rfl)) ?_)))
        refine nil (pN (ret (bR (pR (pR (bR (pR (done rfl (.tmp rfl .nil) (retE ?_)))))))))
        have e : nameB s = false := nameB_no (i := i.toNat) (by omega) (by rw [ei]; exact hu)
        rw [e]; rfl
      · have hcu : nameC (s.get! i.toNat).toNat (i.toNat : Nat) = true := by
          have h2b := (name_key _ _ _).symm.trans h2
          rw [Bool.not_eq_false'] at h2b
          have hu : nameU (s.get! i.toNat) i = true := h2b
          rw [nameU_eq _ (by omega)] at hu
          have ei : ((i.toNat : Nat) : Int) = i := by omega
          rw [ei]; exact hu
        refine skip (bN (pN (region (cons (opv (Ev.move (.t rfl)) (cons (opv (Ev.add_i (.t rfl) (.c (v := I 1) rfl) (fun _ => by omega)) ?_)))))))
        refine cons (opv (Ev.assign (.t rfl)) (nil (pN (next (X := Int) (i + 1) ⟨?_, ?_⟩ ?_ (by repeat first | exact Sub.nil | refine Sub.cons rfl ?_) (by repeat first | exact sR | exact sN | apply sC | apply sS | apply sA)))))
        · try dsimp only
          omega
        · try dsimp only
          intro k h
          by_cases e : (k : Int) < i
          · exact hq k e
          · obtain rfl : k = i.toNat := by omega
            exact hcu
        · try dsimp only
          omega
    · try simp only [nb] at h1
      refine exit (pX (pX (bX (pN (seq (region (cons (opv (Ev.assign (.c (v := .bool true) rfl)) ?_))))))))
      refine nil (pN (ret (done rfl (.tmp rfl .nil) (retE ?_))))
      have e : nameB s = true := nameB_yes (by omega) (fun k hk => hq k (by omega))
      rw [e]; rfl

theorem r15width_ok (a : SAddr) (w : World) : Calls Tryz.prog 183 #[eAddr.val a] w (RetV w (I (wd a))) := by
  refine enter0 5 Tryz.func183 rfl rfl (Nat.le_of_ble_eq_true rfl) ?_
  refine seq (region (cons (box (E := eAddr) (.t rfl) (fun b1 => ?_))))
  refine cons (opv (Ev.assign (.c (v := I 0) rfl)) ?_)
  refine nil (pN (seq (seq (region (cons (opv (Ev.fieldAddr (o := 0) (.t rfl) (by kernel_rfl)) ?_))))))
  refine cons (opv (Ev.load (xv := a.v6) ty4 (.t rfl) (ptsVar (by repeat first | exact mH | apply mT | apply mA) SAddr.l_v6)) ?_)
  refine nil (pN ?_)
  first | refine condD rfl (fun h0 => ?_) (fun h0 => ?_) | refine cond rfl (fun h0 => ?_) (fun h0 => ?_)
  · try simp only [nb] at h0
    refine seq (region (cons (opv (Ev.assign (.c (v := I 128) rfl)) ?_)))
    refine nil (pN (ret (pR (done rfl (.tmp rfl .nil) (retE ?_)))))
    simp [wd, h0, tupV]
  · try simp only [nb] at h0
    refine skip (pN (seq (region (cons (opv (Ev.assign (.c (v := I 32) rfl)) ?_)))))
    refine nil (pN (ret (done rfl (.tmp rfl .nil) (retE ?_))))
    simp [wd, h0, tupV]

theorem r15bit_ok (a : SAddr) (i : Int) (w : World) (h : 0 ≤ i ∧ i < 128) : Calls Tryz.prog 184 #[eAddr.val a, I i] w (RetV w (.bool (decide (bitU a.b.toList i = 1)))) := by
  refine enter0 16 Tryz.func184 rfl rfl (Nat.le_of_ble_eq_true rfl) ?_
  refine seq (region (cons (box (E := eAddr) (.t rfl) (fun b1 => ?_))))
  refine cons (opv (Ev.assign (.c (v := .bool false) rfl)) ?_)
  refine nil (pN (seq (region (cons (opv (Ev.move (.t rfl)) (cons (opv (Ev.quo_n (.t rfl) (.c (v := I 8) rfl) (fun _ => by omega) (fun _ => by omega) (fun _ => by omega)) ?_)))))))
  refine cons (opv (Ev.fieldAddr (o := 1) (.t rfl) (by kernel_rfl)) ?_)
  refine cons (opv (Ev.indexAddrA Tryz.underlying46 ty5 (.t rfl) (.t rfl) (fun _ => by omega)) ?_)
  refine cons (opv (Ev.ldv ty5 (.t rfl) (Lens.comp SAddr.l_b (lArr (n := 16) u8E _ (by omega)))) ?_)
  refine cons (opv (Ev.move (.t rfl)) (cons (opv (Ev.rem_n (.t rfl) (.c (v := I 8) rfl) (fun _ => by omega) (fun _ => by omega)) ?_)))
  refine cons (opv (Ev.sub_i (.c (v := I 7) rfl) (.t rfl) (fun _ => by omega)) ?_)
  refine cons (opv (Ev.shr_u8 (.t rfl) (.t rfl) (fun _ => by omega)) ?_)
  refine cons (opv (Ev.rem_u8 (.t rfl) (.c (v := U8 2) rfl) (fun _ => by decide)) ?_)
  refine cons (opv (Ev.eql_u8 (.t rfl) (.c (v := U8 1) rfl)) ?_)
  refine cons (opv (Ev.assign (.t rfl)) (nil (pN (ret (done rfl (.tmp rfl .nil) (retE ?_))))))
  unfold bitU
  rw [vec_getD a.b _ (by omega), ← u8_mod2]
  rfl

theorem en183 : Gx.Enters Tryz.prog 183 := Gx.Enters.mk' (by kernel_rfl)

theorem r15checkA_ok (a : SAddr) (w : World) : Calls Tryz.prog 182 #[eAddr.val a] w (RetV w (I (checkA a))) := by
  have hw := wd_le a
  refine enter0 16 Tryz.func182 rfl rfl (Nat.le_of_ble_eq_true rfl) ?_
  refine seq (region (cons (box (E := eAddr) (.t rfl) (fun b1 => ?_))))
  refine cons (opv (Ev.assign (.c (v := I 0) rfl)) ?_)
  refine nil (pN (seq (seq (region (cons (opv (Ev.load (xv := a) ty48 (.t rfl) (ptsVar (by repeat first | exact mH | apply mT | apply mA) (Lens.id _))) ?_))))))
  refine cons (callv en183 (.cons (.t rfl) .nil) (fun w I => r15width_ok _ w) ?_)
  refine cons (opv (Ev.to (v' := I (wd a / 8)) (Ev.quo_n (.t rfl) (.c (v := I 8) rfl) (fun _ => by omega) (fun _ => by omega) (fun _ => by omega)) (rfl)) ?_)
  refine cons (opv (Ev.assign (.t rfl)) (nil (pN (block (loop (X := Int) (fun x : Int => (wd a / 8 ≤ x ∧ x ≤ 16) ∧ (∀ k : Nat, wd a / 8 ≤ k → k < x → a.b.toList.getD k 0 = 0)) (fun x : Int => [(1, true, .pointer (some ⟨b1, 0, none⟩)), (3, true, I x)]) (fun x : Int => [Var b1 eAddr a 48]) (fun x : Int => (16 - x).toNat) (wd a / 8) ⟨?_, ?_⟩ (by repeat first | exact Sub.nil | refine Sub.cons rfl ?_) (by repeat first | exact sR | exact sN | apply sC | apply sS | apply sA) (fun x hx => ?_))))))
  · omega
  · intro k h1 h2; omega
  obtain ⟨i, rfl⟩ : ∃ y, y = x := ⟨x, rfl⟩
  obtain ⟨hi, hz⟩ : (wd a / 8 ≤ i ∧ i ≤ 16) ∧ (∀ k : Nat, wd a / 8 ≤ k → k < i → a.b.toList.getD k 0 = 0) := hx
  show Sat _ _ [(1, true, .pointer (some ⟨b1, 0, none⟩)), (3, true, I i)] [Var b1 eAddr a 48]
  refine seq (seq (region (cons (opv (Ev.move (.t rfl)) (cons (opv (Ev.lss_i (.t rfl) (.c (v := I 16) rfl)) ?_))))))
  refine nil (pN ?_)
  first | refine condD rfl (fun h0 => ?_) (fun h0 => ?_) | refine cond rfl (fun h0 => ?_) (fun h0 => ?_)
  · try simp only [nb] at h0
    refine skip (pN (seq (block (seq (region (cons (opv (Ev.move (.t rfl)) (cons (opv (Ev.fieldAddr (o := 1) (.t rfl) (by kernel_rfl)) ?_)))))))))
    refine cons (opv (Ev.indexAddrA Tryz.underlying46 ty5 (.t rfl) (.t rfl) (fun _ => by omega)) ?_)
    refine cons (opv (Ev.ldv ty5 (.t rfl) (Lens.comp SAddr.l_b (lArr (n := 16) u8E _ (by omega)))) ?_)
    refine cons (opv (Ev.neq_u8 (.t rfl) (.c (v := U8 0) rfl)) ?_)
    refine nil (pN ?_)
    first | refine condD rfl (fun h1 => ?_) (fun h1 => ?_) | refine cond rfl (fun h1 => ?_) (fun h1 => ?_)
    · try simp only [nb] at h1
      refine seq (region (cons (opv (Ev.assign (.c (v := I 150) rfl)) ?_)))
      refine nil (pN (ret (bR (pR (pR (bR (pR (done rfl (.tmp rfl .nil) (retE ?_)))))))))
      have hne : ¬ checkA a = 0 := fun h => by
        have := (checkA_bytes a).1 h i.toNat (by omega) (by omega)
        rw [vec_getD a.b _ (by omega)] at this
        exact h1 this
      have e : checkA a = 150 := by unfold checkA at hne ⊢; split at hne <;> simp_all
      rw [e]; rfl
    · try simp only [nb] at h1
      refine skip (bN (pN (region (cons (opv (Ev.move (.t rfl)) (cons (opv (Ev.add_i (.t rfl) (.c (v := I 1) rfl) (fun _ => by omega)) ?_)))))))
      refine cons (opv (Ev.assign (.t rfl)) (nil (pN (next (X := Int) (i + 1) ⟨?_, ?_⟩ ?_ (by repeat first | exact Sub.nil | refine Sub.cons rfl ?_) (by repeat first | exact sR | exact sN | apply sC | apply sS | apply sA)))))
      · try dsimp only
        omega
      · try dsimp only
        intro k h1a h2a
        by_cases e : (k : Int) < i
        · exact hz k h1a e
        · obtain rfl : k = i.toNat := by omega
          rw [vec_getD a.b _ (by omega)]
          simpa using h1
      · try dsimp only
        omega
  · try simp only [nb] at h0
    refine exit (pX (pX (bX (pN (seq (region (cons (opv (Ev.assign (.c (v := I 0) rfl)) ?_))))))))
    refine nil (pN (ret (done rfl (.tmp rfl .nil) (retE ?_))))
    have e : checkA a = 0 := (checkA_bytes a).2 (fun k hk1 hk2 => hz k hk1 (by omega))
    rw [e]; rfl

theorem checkP_15 (p : SPrefix) : checkP p = 0 ↔ checkA p.addr = 0 ∧ 0 ≤ p.bits ∧ p.bits ≤ wd p.addr ∧ ∀ i : Int, p.bits ≤ i → i < wd p.addr → ¬ bitU p.addr.b.toList i = 1 := by
  have hw := wd_le p.addr
  have h01 : ∀ i, bitU p.addr.b.toList i = 0 ∨ bitU p.addr.b.toList i = 1 := fun i => by
    have : ∀ x : UInt8, x &&& 1 = 0 ∨ x &&& 1 = 1 := fun x => by
      have h : (x &&& 1).toNat = x.toNat % 2 := by
        rw [UInt8.toNat_and]
        exact Nat.and_one_is_mod _
      rcases Nat.mod_two_eq_zero_or_one x.toNat with h2 | h2
      · exact .inl (UInt8.toNat_inj.1 (by rw [h, h2]; rfl))
      · exact .inr (UInt8.toNat_inj.1 (by rw [h, h2]; rfl))
    exact this _
  rw [checkP_zero, checkA_zero]
  constructor
  · rintro ⟨h1, h2, h3⟩
    refine ⟨fun i hi hj => h3 i (by omega) hj, h1, h2, fun i hi hj e => ?_⟩
    rw [h3 i hi (by omega)] at e
    exact absurd e (by decide)
  · rintro ⟨h1, h2, h3, h4⟩
    refine ⟨h2, h3, fun i hi hj => ?_⟩
    by_cases hlt : i < wd p.addr
    · exact (h01 i).resolve_right (h4 i hi hlt)
    · exact h1 i (by omega) hj
theorem checkP_or (p : SPrefix) : checkP p = 0 ∨ checkP p = 151 := by
  unfold checkP
  split <;> simp

theorem en182 : Gx.Enters Tryz.prog 182 := Gx.Enters.mk' (by kernel_rfl)

theorem en184 : Gx.Enters Tryz.prog 184 := Gx.Enters.mk' (by kernel_rfl)

theorem r15check_ok (p : SPrefix) (w : World) : Calls Tryz.prog 154 #[ePrefix.val p] w (RetV w (I (checkP p))) := by
  have hw := wd_le p.addr
  refine enter0 34 Tryz.func154 rfl rfl (Nat.le_of_ble_eq_true rfl) ?_
  refine seq (region (cons (box (E := ePrefix) (.t rfl) (fun b1 => ?_))))
  refine cons (opv (Ev.assign (.c (v := I 0) rfl)) ?_)
  refine nil (pN (seq (seq (draw' (by kernel_rfl) ?_))))
  refine tk 0 rfl (Ev.fieldAddr (o := 0) (.t rfl) (by kernel_rfl)) ?_
  refine tk 1 rfl (Ev.load (xv := p.addr) ty48 (.t rfl) (ptsVar (by repeat first | exact mH | apply mT | apply mA) SPrefix.l_addr)) ?_
  refine al1 2 rfl ((callv en182 (.cons (.t rfl) .nil) (fun w I => r15checkA_ok _ w) ?_))
  refine hdn (tk 3 rfl (Ev.neq_i (.t rfl) (.c (v := I 0) rfl)) ?_)
  refine tk 4 rfl (Ev.move (.t rfl)) ?_
  refine tkg 5 rfl rfl rfl (Ev.fieldAddr (o := 17) (.t rfl) (by kernel_rfl)) ?_
  refine tkg 6 rfl rfl rfl (Ev.load (xv := p.bits) ty3 (.g rfl id) (ptsVar (by repeat first | exact mH | apply mT | apply mA) SPrefix.l_bits)) ?_
  refine tkg 7 rfl rfl rfl (Ev.lss_i (.g rfl id) (.c (v := I 0) rfl)) ?_
  refine tk 8 rfl (Ev.pickO (.t rfl) (.c (v := .bool true) rfl) (fun {_} h => by cases h; rfl) ⟨_, rfl⟩ (by intro h1 h; first | (rw [h] <;> rfl) | (rw [h1, h] <;> rfl) | (rw [h, h1] <;> rfl) | simp_all)) ?_
  refine tk 9 rfl (Ev.move (.t rfl)) ?_
  refine tkg 10 rfl rfl rfl (Ev.fieldAddr (o := 17) (.t rfl) (by kernel_rfl)) ?_
  refine tkg 11 rfl rfl rfl (Ev.load (xv := p.bits) ty3 (.g rfl id) (ptsVar (by repeat first | exact mH | apply mT | apply mA) SPrefix.l_bits)) ?_
  refine tkg 12 rfl rfl rfl (Ev.fieldAddr (o := 0) (.t rfl) (by kernel_rfl)) ?_
  refine tkg 13 rfl rfl rfl (Ev.load (xv := p.addr) ty48 (.g rfl id) (ptsVar (by repeat first | exact mH | apply mT | apply mA) SPrefix.l_addr)) ?_
  refine al1 14 rfl ((callg rfl rfl en183 (.cons (.g rfl id) .nil) (fun hg w I => r15width_ok _ w) ?_))
  refine hdn (tkg 15 rfl rfl rfl (Ev.gtr_i (.g rfl id) (.g rfl id)) ?_)
  refine tk 16 rfl (Ev.pickO (.t rfl) (.c (v := .bool true) rfl) (fun {_} h => by cases h; rfl) ⟨_, rfl⟩ (by intro h1 h; first | (rw [h] <;> rfl) | (rw [h1, h] <;> rfl) | (rw [h, h1] <;> rfl) | simp_all)) ?_
  refine ovr (pN ?_)
  first | refine condD rfl (fun h0 => ?_) (fun h0 => ?_) | refine cond rfl (fun h0 => ?_) (fun h0 => ?_)
  · refine seq (region (cons (opv (Ev.assign (.c (v := I 151) rfl)) ?_)))
    refine nil (pN (ret (pR (done rfl (.tmp rfl .nil) (retE ?_)))))
    have e : checkP p = 151 := (checkP_or p).resolve_left (fun h => by
      have := (checkP_15 p).1 h
      simp [this.1] at h0
      omega)
    rw [e]; rfl
  · have hr : checkA p.addr = 0 ∧ 0 ≤ p.bits ∧ p.bits ≤ wd p.addr := by simpa [and_assoc] using h0
    refine skip (pN (seq (seq (region (cons (opv (Ev.fieldAddr (o := 17) (.t rfl) (by kernel_rfl)) ?_))))))
    refine cons (opv (Ev.load (xv := p.bits) ty3 (.t rfl) (ptsVar (by repeat first | exact mH | apply mT | apply mA) SPrefix.l_bits)) ?_)
    refine cons (opv (Ev.assign (.t rfl)) (nil (pN (block (loop (X := Int) (fun x : Int => (p.bits ≤ x ∧ x ≤ wd p.addr) ∧ (∀ j : Int, p.bits ≤ j → j < x → ¬ bitU p.addr.b.toList j = 1)) (fun x : Int => [(1, true, .pointer (some ⟨b1, 0, none⟩)), (3, true, I x)]) (fun x : Int => [Var b1 ePrefix p 50]) (fun x : Int => (wd p.addr - x).toNat) (p.bits) ⟨?_, ?_⟩ (by repeat first | exact Sub.nil | refine Sub.cons rfl ?_) (by repeat first | exact sR | exact sN | apply sC | apply sS | apply sA) (fun x hx => ?_))))))
    · omega
    · intro j h1 h2; omega
    obtain ⟨i, rfl⟩ : ∃ y, y = x := ⟨x, rfl⟩
    obtain ⟨hi, hz⟩ : (p.bits ≤ i ∧ i ≤ wd p.addr) ∧ (∀ j : Int, p.bits ≤ j → j < i → ¬ bitU p.addr.b.toList j = 1) := hx
    show Sat _ _ [(1, true, .pointer (some ⟨b1, 0, none⟩)), (3, true, I i)] [Var b1 ePrefix p 50]
    refine seq (seq (region (cons (opv (Ev.move (.t rfl)) (cons (opv (Ev.fieldAddr (o := 0) (.t rfl) (by kernel_rfl)) ?_))))))
    refine cons (opv (Ev.load (xv := p.addr) ty48 (.t rfl) (ptsVar (by repeat first | exact mH | apply mT | apply mA) SPrefix.l_addr)) ?_)
    refine cons (callv en183 (.cons (.t rfl) .nil) (fun w I => r15width_ok _ w) ?_)
    refine cons (opv (Ev.lss_i (.t rfl) (.t rfl)) ?_)
    refine nil (pN ?_)
    first | refine condD rfl (fun h1 => ?_) (fun h1 => ?_) | refine cond rfl (fun h1 => ?_) (fun h1 => ?_)
    · try simp only [nb] at h1
      refine skip (pN (seq (block (seq (region (cons (opv (Ev.fieldAddr (o := 0) (.t rfl) (by kernel_rfl)) ?_)))))))
      refine cons (opv (Ev.load (xv := p.addr) ty48 (.t rfl) (ptsVar (by repeat first | exact mH | apply mT | apply mA) SPrefix.l_addr)) ?_)
      refine cons (opv (Ev.move (.t rfl)) (cons (callv en184 (.cons (.t rfl) (.cons (.t rfl) .nil)) (fun w I => r15bit_ok _ _ w (by first | omega | (simp; omega))) ?_)))
      refine nil (pN ?_)
      first | refine condD rfl (fun h2 => ?_) (fun h2 => ?_) | refine cond rfl (fun h2 => ?_) (fun h2 => ?_)
      · refine seq (region (cons (opv (Ev.assign (.c (v := I 151) rfl)) ?_)))
        refine nil (pN (ret (bR (pR (pR (bR (pR (done rfl (.tmp rfl .nil) (retE ?_)))))))))
        have e : checkP p = 151 := (checkP_or p).resolve_left (fun h => ((checkP_15 p).1 h).2.2.2 i (by omega) (by omega) (by simpa using h2))
        rw [e]; rfl
      · refine skip (bN (pN (region (cons (opv (Ev.move (.t rfl)) (cons (opv (Ev.add_i (.t rfl) (.c (v := I 1) rfl) (fun _ => by omega)) ?_)))))))
        refine cons (opv (Ev.assign (.t rfl)) (nil (pN (next (X := Int) (i + 1) ⟨?_, ?_⟩ ?_ (by repeat first | exact Sub.nil | refine Sub.cons rfl ?_) (by repeat first | exact sR | exact sN | apply sC | apply sS | apply sA)))))
        · try dsimp only
          omega
        · try dsimp only
          intro j h1 h2a
          by_cases e : j = i
          · rw [e]; simpa using h2
          · exact hz j h1 (by omega)
        · try dsimp only
          omega
    · try simp only [nb] at h1
      refine exit (pX (pX (bX (pN (seq (region (cons (opv (Ev.assign (.c (v := I 0) rfl)) ?_))))))))
      refine nil (pN (ret (done rfl (.tmp rfl .nil) (retE ?_))))
      have e : checkP p = 0 := (checkP_15 p).2 ⟨hr.1, hr.2.1, hr.2.2, fun j h1 h2 => hz j h1 (by omega)⟩
      rw [e]; rfl

theorem rroom_ok (n : Int) (w : World) : Calls Tryz.prog 159 #[I n] w (RetV w (.bool (roomB n))) := by
  refine enter0 11 Tryz.func159 rfl rfl (Nat.le_of_ble_eq_true rfl) ?_
  refine seq (region (cons (opv (Ev.assign (.c (v := .bool false) rfl)) ?_)))
  refine nil (pN (seq (seq (region (cons (opv (Ev.assign (.c (v := I 2) rfl)) ?_))))))
  refine nil (pN (block (loop (X := Int) (fun x : Int => (x ∈ (2048 :: rooms)) ∧ (∀ m ∈ rooms, m < x → ¬ m = n)) (fun x : Int => [(0, true, I n), (3, true, I x)]) (fun x : Int => []) (fun x : Int => (2048 - x).toNat) (2) ⟨?_, ?_⟩ (by repeat first | exact Sub.nil | refine Sub.cons rfl ?_) (by repeat first | exact sR | exact sN | apply sC | apply sS | apply sA) (fun x hx => ?_))))
  · decide
  · have h : ∀ m ∈ rooms, ¬ m < 2 := by decide
    exact fun m hm hl => absurd hl (h m hm)
  obtain ⟨k, rfl⟩ : ∃ y, y = x := ⟨x, rfl⟩
  obtain ⟨hk, hq⟩ : (k ∈ (2048 :: rooms)) ∧ (∀ m ∈ rooms, m < k → ¬ m = n) := hx
  show Sat _ _ [(0, true, I n), (3, true, I k)] []
  refine seq (seq (region (cons (opv (Ev.move (.t rfl)) (cons (opv (Ev.leq_i (.t rfl) (.c (v := I 1024) rfl)) ?_))))))
  refine nil (pN ?_)
  first | refine condD rfl (fun h0 => ?_) (fun h0 => ?_) | refine cond rfl (fun h0 => ?_) (fun h0 => ?_)
  · try simp only [nb] at h0
    have hkr : k ∈ rooms := by
      rcases List.mem_cons.1 hk with h | h
      · omega
      · exact h
    have hkb : 2 ≤ k ∧ k ≤ 1024 := by
      have : ∀ k ∈ rooms, 2 ≤ k ∧ k ≤ 1024 := by decide
      exact this k hkr
    refine skip (pN (seq (block (seq (region (cons (opv (Ev.move (.t rfl)) (cons (opv (Ev.move (.t rfl)) (cons (opv (Ev.eql_i (.t rfl) (.t rfl)) ?_)))))))))))
    refine nil (pN ?_)
    first | refine condD rfl (fun h1 => ?_) (fun h1 => ?_) | refine cond rfl (fun h1 => ?_) (fun h1 => ?_)
    · try simp only [nb] at h1
      refine seq (region (cons (opv (Ev.assign (.c (v := .bool true) rfl)) ?_)))
      refine nil (pN (ret (bR (pR (pR (bR (pR (done rfl (.tmp rfl .nil) (retE ?_)))))))))
      have e : roomB n = true := (roomB_iff n).2 (h1 ▸ hkr)
      rw [e]; rfl
    · try simp only [nb] at h1
      refine skip (bN (pN (region (cons (opv (Ev.move (.t rfl)) (cons (opv (Ev.mul_i (.c (v := I 2) rfl) (.t rfl) (fun _ => by omega)) ?_)))))))
      refine cons (opv (Ev.assign (.t rfl)) (nil (pN (next (X := Int) (2 * k) ⟨?_, ?_⟩ ?_ (by repeat first | exact Sub.nil | refine Sub.cons rfl ?_) (by repeat first | exact sR | exact sN | apply sC | apply sS | apply sA)))))
      · try dsimp only
        have hs : ∀ k ∈ rooms, 2 * k ∈ (2048 :: rooms) := by decide
        exact hs k hkr
      · try dsimp only
        have hs : ∀ k ∈ rooms, ∀ m ∈ rooms, m < 2 * k → m < k ∨ m = k := by decide
        intro m hm hlt
        rcases hs k hkr m hm hlt with h | h
        · exact hq m hm h
        · rw [h]; exact h1
      · try dsimp only
        have := hkb; omega
  · try simp only [nb] at h0
    have hkt : k = 2048 := by
      rcases List.mem_cons.1 hk with h | h
      · exact h
      · have : ∀ k ∈ rooms, k ≤ 1024 := by decide
        have := this k h
        omega
    refine exit (pX (pX (bX (pN (seq (region (cons (opv (Ev.assign (.c (v := .bool false) rfl)) ?_))))))))
    refine nil (pN (ret (done rfl (.tmp rfl .nil) (retE ?_))))
    have e : roomB n = false := by
      rw [Bool.eq_false_iff]
      intro h
      have hm := (roomB_iff n).1 h
      have : ∀ m ∈ rooms, m < 2048 := by decide
      exact hq n hm (by rw [hkt]; exact this n hm) rfl
    rw [e]; rfl
end Go.Proofs.YtnoobdijbpmjkaaGreat
