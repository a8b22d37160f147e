/- trie -/
import Derived.Test.YtjjlofjpdklbgaaT25
set_option linter.unusedVariables false
set_option linter.unusedSimpArgs false
namespace Go.Proofs.Ytjjlofjpdklbgaa
open Go Go.Gx

theorem u8_mod2 (y : UInt8) : y % 2 = y &&& 1 := by
  apply UInt8.toNat_inj.1
  rw [UInt8.toNat_and, UInt8.toNat_mod]
  have e : UInt8.toNat 1 = 1 := rfl
  have e2 : UInt8.toNat 2 = 2 := rfl
  rw [e, e2, Nat.and_one_is_mod]
theorem checkA_bytes (a : SAddr) : checkA a = 0 ↔ ∀ k : Nat, wd a / 8 ≤ k → k < 16 → a.b.toList.getD k 0 = 0 := by
  have hw : wd a = 32 ∨ wd a = 128 := by unfold wd; cases a.v6 <;> simp
  rw [checkA_zero]
  constructor
  · intro h k h1 h2
    have hm := (mk1_iff (a.b.toList.getD k 0) 0).2 (fun j hj _ => by
      rw [← bitU_at _ _ _ hj]
      exact h _ (by omega) (by omega))
    rw [← hm]
    rfl
  · intro h i h1 h2
    have e : i = 8 * ((i / 8).toNat : Int) + ((i % 8).toNat : Int) := by omega
    rw [e, bitU_at _ _ _ (by omega), h _ (by omega) (by omega)]
    have : ∀ j : Fin 8, bitOf 0 j.val = 0 := by decide
    exact this ⟨(i % 8).toNat, by omega⟩

theorem r15width_ok (a : SAddr) (w : World) : Calls Try.prog 64 #[eAddr.val a] w (RetV w (I (wd a))) := by
  refine enter0 5 Try.func64 rfl rfl (Nat.le_of_ble_eq_true rfl) ?_
  refine seq (region (cons (box (E := eAddr) (.t rfl) (fun b1 => ?_))))
  refine cons (opv (Ev.assign (.c (v := I 0) rfl)) ?_)
  refine nil (pN (seq (seq (region (cons (opv (Ev.fieldAddr (o := 0) (.t rfl) (by kernel_rfl)) ?_))))))
  refine cons (opv (Ev.ldx a.v6 ty4 (.t rfl) SAddr.l_v6) ?_)
  refine nil (pN ?_)
  first | refine condD rfl (fun h0 => ?_) (fun h0 => ?_) | refine cond rfl (fun h0 => ?_) (fun h0 => ?_)
  · try simp only [Gx.nb] at h0
    refine seq (region (cons (opv (Ev.assign (.c (v := I 128) rfl)) ?_)))
    refine nil (pN (ret (pR (done rfl (.tmp rfl .nil) (retE ?_)))))
    simp [wd, h0, tupV]
  · try simp only [Gx.nb] at h0
    refine skip (pN (seq (region (cons (opv (Ev.assign (.c (v := I 32) rfl)) ?_)))))
    refine nil (pN (ret (done rfl (.tmp rfl .nil) (retE ?_))))
    simp [wd, h0, tupV]

theorem r15bit_ok (a : SAddr) (i : Int) (w : World) (h : 0 ≤ i ∧ i < 128) : Calls Try.prog 65 #[eAddr.val a, I i] w (RetV w (.bool (decide (bitU a.b.toList i = 1)))) := by
  refine enter0 16 Try.func65 rfl rfl (Nat.le_of_ble_eq_true rfl) ?_
  refine seq (region (cons (box (E := eAddr) (.t rfl) (fun b1 => ?_))))
  refine cons (opv (Ev.assign (.c (v := .bool false) rfl)) ?_)
  refine nil (pN (seq (region (cons (opv (Ev.move (.t rfl)) (cons (opv (Ev.quo_n (.t rfl) (.c (v := I 8) rfl) (fun _ => by omega) (fun _ => by omega) (fun _ => by omega)) ?_)))))))
  refine cons (opv (Ev.fieldAddr (o := 1) (.t rfl) (by kernel_rfl)) ?_)
  refine cons (opv (Ev.indexAddrA Try.underlying29 ty5 (.t rfl) (.t rfl) (fun _ => by omega)) ?_)
  refine cons (opv (Ev.ldv ty5 (.t rfl) (Lens.comp SAddr.l_b (lArr (n := 16) u8E _ (by omega)))) ?_)
  refine cons (opv (Ev.move (.t rfl)) (cons (opv (Ev.rem_n (.t rfl) (.c (v := I 8) rfl) (fun _ => by omega) (fun _ => by omega)) ?_)))
  refine cons (opv (Ev.sub_i (.c (v := I 7) rfl) (.t rfl) (fun _ => by omega)) ?_)
  refine cons (opv (Ev.shr_u8 (.t rfl) (.t rfl) (fun _ => by omega)) ?_)
  refine cons (opv (Ev.rem_u8 (.t rfl) (.c (v := U8 2) rfl) (fun _ => by decide)) ?_)
  refine cons (opv (Ev.eql_u8 (.t rfl) (.c (v := U8 1) rfl)) ?_)
  refine cons (opv (Ev.assign (.t rfl)) (nil (pN (ret (done rfl (.tmp rfl .nil) (retE ?_))))))
  unfold bitU
  rw [vec_getD a.b _ (by omega), ← u8_mod2]
  rfl

theorem en64 : Gx.Enters Try.prog 64 := Gx.Enters.mk' (by kernel_rfl)

theorem r15checkA_ok (a : SAddr) (w : World) : Calls Try.prog 63 #[eAddr.val a] w (RetV w (I (checkA a))) := by
  have hw := wd_le a
  refine enter0 16 Try.func63 rfl rfl (Nat.le_of_ble_eq_true rfl) ?_
  refine seq (region (cons (box (E := eAddr) (.t rfl) (fun b1 => ?_))))
  refine cons (opv (Ev.assign (.c (v := I 0) rfl)) ?_)
  refine nil (pN (seq (seq (region (cons (opv (Ev.ldx a ty31 (.t rfl) (Lens.id _)) ?_))))))
  refine cons (callv en64 (.cons (.t rfl) .nil) (fun w I => r15width_ok _ w) ?_)
  refine cons (opv (Ev.to (v' := I (wd a / 8)) (Ev.quo_n (.t rfl) (.c (v := I 8) rfl) (fun _ => by omega) (fun _ => by omega) (fun _ => by omega)) (rfl)) ?_)
  refine cons (opv (Ev.assign (.t rfl)) (nil (pN (block (lp (X := Int) (fun x : Int => (wd a / 8 ≤ x ∧ x ≤ 16) ∧ (∀ k : Nat, wd a / 8 ≤ k → k < x → a.b.toList.getD k 0 = 0)) (fun x : Int => [dz, (1, true, .pointer (some ⟨b1, 0, none⟩)), (3, true, I x)]) (fun x : Int => [Var b1 eAddr a 31]) (fun x : Int => (16 - x).toNat) (wd a / 8) ⟨?_, ?_⟩ (fun x hx => ?_))))))
  · omega
  · intro k h1 h2; omega
  obtain ⟨i, rfl⟩ : ∃ y, y = x := ⟨x, rfl⟩
  obtain ⟨hi, hz⟩ : (wd a / 8 ≤ i ∧ i ≤ 16) ∧ (∀ k : Nat, wd a / 8 ≤ k → k < i → a.b.toList.getD k 0 = 0) := hx
  show Sat _ _ [dz, (1, true, .pointer (some ⟨b1, 0, none⟩)), (3, true, I i)] [Var b1 eAddr a 31]
  refine seq (seq (region (cons (opv (Ev.move (.t rfl)) (cons (opv (Ev.lss_i (.t rfl) (.c (v := I 16) rfl)) ?_))))))
  refine nil (pN ?_)
  first | refine condD rfl (fun h0 => ?_) (fun h0 => ?_) | refine cond rfl (fun h0 => ?_) (fun h0 => ?_)
  · try simp only [Gx.nb] at h0
    refine skip (pN (seq (block (seq (region (cons (opv (Ev.move (.t rfl)) (cons (opv (Ev.fieldAddr (o := 1) (.t rfl) (by kernel_rfl)) ?_)))))))))
    refine cons (opv (Ev.indexAddrA Try.underlying29 ty5 (.t rfl) (.t rfl) (fun _ => by omega)) ?_)
    refine cons (opv (Ev.ldv ty5 (.t rfl) (Lens.comp SAddr.l_b (lArr (n := 16) u8E _ (by omega)))) ?_)
    refine cons (opv (Ev.neq_u8 (.t rfl) (.c (v := U8 0) rfl)) ?_)
    refine nil (pN ?_)
    first | refine condD rfl (fun h1 => ?_) (fun h1 => ?_) | refine cond rfl (fun h1 => ?_) (fun h1 => ?_)
    · try simp only [Gx.nb] at h1
      refine seq (region (cons (opv (Ev.assign (.c (v := I 150) rfl)) ?_)))
      refine nil (pN (ret (bR (pR (pR (bR (pR (done rfl (.tmp rfl .nil) (retE ?_)))))))))
      have hne : ¬ checkA a = 0 := fun h => by
        have := (checkA_bytes a).1 h i.toNat (by omega) (by omega)
        rw [vec_getD a.b _ (by omega)] at this
        exact h1 this
      have e : checkA a = 150 := by unfold checkA at hne ⊢; split at hne <;> simp_all
      rw [e]; rfl
    · try simp only [Gx.nb] at h1
      refine skip (bN (pN (region (cons (opv (Ev.move (.t rfl)) (cons (opv (Ev.add_i (.t rfl) (.c (v := I 1) rfl) (fun _ => by omega)) ?_)))))))
      refine cons (opv (Ev.assign (.t rfl)) (nil (pN (nx (X := Int) (i + 1) ⟨?_, ?_⟩ ?_))))
      · try dsimp only
        omega
      · try dsimp only
        intro k h1a h2a
        by_cases e : (k : Int) < i
        · exact hz k h1a e
        · obtain rfl : k = i.toNat := by omega
          rw [vec_getD a.b _ (by omega)]
          simpa using h1
      · try dsimp only
        omega
  · try simp only [Gx.nb] at h0
    refine exit (pX (pX (bX (pN (seq (region (cons (opv (Ev.assign (.c (v := I 0) rfl)) ?_))))))))
    refine nil (pN (ret (done rfl (.tmp rfl .nil) (retE ?_))))
    have e : checkA a = 0 := (checkA_bytes a).2 (fun k hk1 hk2 => hz k hk1 (by omega))
    rw [e]; rfl

theorem checkP_15 (p : SPrefix) : checkP p = 0 ↔ checkA p.addr = 0 ∧ 0 ≤ p.bits ∧ p.bits ≤ wd p.addr ∧ ∀ i : Int, p.bits ≤ i → i < wd p.addr → ¬ bitU p.addr.b.toList i = 1 := by
  have hw := wd_le p.addr
  have h01 : ∀ i, bitU p.addr.b.toList i = 0 ∨ bitU p.addr.b.toList i = 1 := fun i => by
    have : ∀ x : UInt8, x &&& 1 = 0 ∨ x &&& 1 = 1 := fun x => by
      have h : (x &&& 1).toNat = x.toNat % 2 := by
        rw [UInt8.toNat_and]
        exact Nat.and_one_is_mod _
      rcases Nat.mod_two_eq_zero_or_one x.toNat with h2 | h2
      · exact .inl (UInt8.toNat_inj.1 (by rw [h, h2]; rfl))
      · exact .inr (UInt8.toNat_inj.1 (by rw [h, h2]; rfl))
    exact this _
  rw [checkP_zero, checkA_zero]
  constructor
  · rintro ⟨h1, h2, h3⟩
    refine ⟨fun i hi hj => h3 i (by omega) hj, h1, h2, fun i hi hj e => ?_⟩
    rw [h3 i hi (by omega)] at e
    exact absurd e (by decide)
  · rintro ⟨h1, h2, h3, h4⟩
    refine ⟨h2, h3, fun i hi hj => ?_⟩
    by_cases hlt : i < wd p.addr
    · exact (h01 i).resolve_right (h4 i hi hlt)
    · exact h1 i (by omega) hj
theorem checkP_or (p : SPrefix) : checkP p = 0 ∨ checkP p = 151 := by
  unfold checkP
  split <;> simp

theorem en63 : Gx.Enters Try.prog 63 := Gx.Enters.mk' (by kernel_rfl)

theorem en65 : Gx.Enters Try.prog 65 := Gx.Enters.mk' (by kernel_rfl)

theorem r15check_ok (p : SPrefix) (w : World) : Calls Try.prog 45 #[ePrefix.val p] w (RetV w (I (checkP p))) := by
  have hw := wd_le p.addr
  refine enter0 34 Try.func45 rfl rfl (Nat.le_of_ble_eq_true rfl) ?_
  refine seq (region (cons (box (E := ePrefix) (.t rfl) (fun b1 => ?_))))
  refine cons (opv (Ev.assign (.c (v := I 0) rfl)) ?_)
  refine nil (pN (seq (seq (draw' (by kernel_rfl) ?_))))
  refine tk 0 rfl (Ev.fieldAddr (o := 0) (.t rfl) (by kernel_rfl)) ?_
  refine tk 1 rfl (Ev.ldx p.addr ty31 (.t rfl) SPrefix.l_addr) ?_
  refine al1 2 rfl ((callv en63 (.cons (.t rfl) .nil) (fun w I => r15checkA_ok _ w) ?_))
  refine hdn (tk 3 rfl (Ev.neq_i (.t rfl) (.c (v := I 0) rfl)) ?_)
  refine tk 4 rfl (Ev.move (.t rfl)) ?_
  refine tkg 5 rfl rfl rfl (Ev.fieldAddr (o := 17) (.t rfl) (by kernel_rfl)) ?_
  refine tkg 6 rfl rfl rfl (Ev.ldx p.bits ty3 (.g rfl id) SPrefix.l_bits) ?_
  refine tkg 7 rfl rfl rfl (Ev.lss_i (.g rfl id) (.c (v := I 0) rfl)) ?_
  refine tk 8 rfl (Ev.pickO (.t rfl) (.c (v := .bool true) rfl) (fun {_} h => by cases h; rfl) ⟨_, rfl⟩ (by intro h1 h; first | (rw [h] <;> rfl) | (rw [h1, h] <;> rfl) | (rw [h, h1] <;> rfl) | simp_all)) ?_
  refine tk 9 rfl (Ev.move (.t rfl)) ?_
  refine tkg 10 rfl rfl rfl (Ev.fieldAddr (o := 17) (.t rfl) (by kernel_rfl)) ?_
  refine tkg 11 rfl rfl rfl (Ev.ldx p.bits ty3 (.g rfl id) SPrefix.l_bits) ?_
  refine tkg 12 rfl rfl rfl (Ev.fieldAddr (o := 0) (.t rfl) (by kernel_rfl)) ?_
  refine tkg 13 rfl rfl rfl (Ev.ldx p.addr ty31 (.g rfl id) SPrefix.l_addr) ?_
  refine al1 14 rfl ((callg rfl rfl en64 (.cons (.g rfl id) .nil) (fun hg w I => r15width_ok _ w) ?_))
  refine hdn (tkg 15 rfl rfl rfl (Ev.gtr_i (.g rfl id) (.g rfl id)) ?_)
  refine tk 16 rfl (Ev.pickO (.t rfl) (.c (v := .bool true) rfl) (fun {_} h => by cases h; rfl) ⟨_, rfl⟩ (by intro h1 h; first | (rw [h] <;> rfl) | (rw [h1, h] <;> rfl) | (rw [h, h1] <;> rfl) | simp_all)) ?_
  refine ovr (pN ?_)
  first | refine condD rfl (fun h0 => ?_) (fun h0 => ?_) | refine cond rfl (fun h0 => ?_) (fun h0 => ?_)
  · refine seq (region (cons (opv (Ev.assign (.c (v := I 151) rfl)) ?_)))
    refine nil (pN (ret (pR (done rfl (.tmp rfl .nil) (retE ?_)))))
    have e : checkP p = 151 := (checkP_or p).resolve_left (fun h => by
      have := (checkP_15 p).1 h
      simp [this.1] at h0
      omega)
    rw [e]; rfl
  · have hr : checkA p.addr = 0 ∧ 0 ≤ p.bits ∧ p.bits ≤ wd p.addr := by simpa [and_assoc] using h0
    refine skip (pN (seq (seq (region (cons (opv (Ev.fieldAddr (o := 17) (.t rfl) (by kernel_rfl)) ?_))))))
    refine cons (opv (Ev.ldx p.bits ty3 (.t rfl) SPrefix.l_bits) ?_)
    refine cons (opv (Ev.assign (.t rfl)) (nil (pN (block (lp (X := Int) (fun x : Int => (p.bits ≤ x ∧ x ≤ wd p.addr) ∧ (∀ j : Int, p.bits ≤ j → j < x → ¬ bitU p.addr.b.toList j = 1)) (fun x : Int => [dz, (1, true, .pointer (some ⟨b1, 0, none⟩)), (3, true, I x)]) (fun x : Int => [Var b1 ePrefix p 36]) (fun x : Int => (wd p.addr - x).toNat) (p.bits) ⟨?_, ?_⟩ (fun x hx => ?_))))))
    · omega
    · intro j h1 h2; omega
    obtain ⟨i, rfl⟩ : ∃ y, y = x := ⟨x, rfl⟩
    obtain ⟨hi, hz⟩ : (p.bits ≤ i ∧ i ≤ wd p.addr) ∧ (∀ j : Int, p.bits ≤ j → j < i → ¬ bitU p.addr.b.toList j = 1) := hx
    show Sat _ _ [dz, (1, true, .pointer (some ⟨b1, 0, none⟩)), (3, true, I i)] [Var b1 ePrefix p 36]
    refine seq (seq (region (cons (opv (Ev.move (.t rfl)) (cons (opv (Ev.fieldAddr (o := 0) (.t rfl) (by kernel_rfl)) ?_))))))
    refine cons (opv (Ev.ldx p.addr ty31 (.t rfl) SPrefix.l_addr) ?_)
    refine cons (callv en64 (.cons (.t rfl) .nil) (fun w I => r15width_ok _ w) ?_)
    refine cons (opv (Ev.lss_i (.t rfl) (.t rfl)) ?_)
    refine nil (pN ?_)
    first | refine condD rfl (fun h1 => ?_) (fun h1 => ?_) | refine cond rfl (fun h1 => ?_) (fun h1 => ?_)
    · try simp only [Gx.nb] at h1
      refine skip (pN (seq (block (seq (region (cons (opv (Ev.fieldAddr (o := 0) (.t rfl) (by kernel_rfl)) ?_)))))))
      refine cons (opv (Ev.ldx p.addr ty31 (.t rfl) SPrefix.l_addr) ?_)
      refine cons (opv (Ev.move (.t rfl)) (cons (callv en65 (.cons (.t rfl) (.cons (.t rfl) .nil)) (fun w I => r15bit_ok _ _ w (by first | omega | (simp; omega))) ?_)))
      refine nil (pN ?_)
      first | refine condD rfl (fun h2 => ?_) (fun h2 => ?_) | refine cond rfl (fun h2 => ?_) (fun h2 => ?_)
      · refine seq (region (cons (opv (Ev.assign (.c (v := I 151) rfl)) ?_)))
        refine nil (pN (ret (bR (pR (pR (bR (pR (done rfl (.tmp rfl .nil) (retE ?_)))))))))
        have e : checkP p = 151 := (checkP_or p).resolve_left (fun h => ((checkP_15 p).1 h).2.2.2 i (by omega) (by omega) (by simpa using h2))
        rw [e]; rfl
      · refine skip (bN (pN (region (cons (opv (Ev.move (.t rfl)) (cons (opv (Ev.add_i (.t rfl) (.c (v := I 1) rfl) (fun _ => by omega)) ?_)))))))
        refine cons (opv (Ev.assign (.t rfl)) (nil (pN (nx (X := Int) (i + 1) ⟨?_, ?_⟩ ?_))))
        · try dsimp only
          omega
        · try dsimp only
          intro j h1 h2a
          by_cases e : j = i
          · rw [e]; simpa using h2
          · exact hz j h1 (by omega)
        · try dsimp only
          omega
    · try simp only [Gx.nb] at h1
      refine exit (pX (pX (bX (pN (seq (region (cons (opv (Ev.assign (.c (v := I 0) rfl)) ?_))))))))
      refine nil (pN (ret (done rfl (.tmp rfl .nil) (retE ?_))))
      have e : checkP p = 0 := (checkP_15 p).2 ⟨hr.1, hr.2.1, hr.2.2, fun j h1 h2 => hz j h1 (by omega)⟩
      rw [e]; rfl
end Go.Proofs.Ytjjlofjpdklbgaa
/- trie -/
set_option linter.unusedVariables false
set_option linter.unusedSimpArgs false
namespace Go.Proofs.Ytjjlofjpdklbgaa
open Go Go.Gx

theorem en45 : Gx.Enters Try.prog 45 := Gx.Enters.mk' (by kernel_rfl)

theorem r15has_ok (p : SPrefix) (a : SAddr) (w : World) : Calls Try.prog 67 #[ePrefix.val p, eAddr.val a] w (RetV w (.bool (hasP p a))) := by
  refine enter0 36 Try.func67 rfl rfl (Nat.le_of_ble_eq_true rfl) ?_
  refine seq (region (cons (box (E := ePrefix) (.t rfl) (fun b1 => ?_))))
  refine cons (box (E := eAddr) (.t rfl) (fun b2 => ?_))
  refine cons (opv (Ev.assign (.c (v := .bool false) rfl)) ?_)
  refine nil (pN (seq (seq (region (cons (opv (Ev.ldx p ty36 (.t rfl) (Lens.id _)) ?_))))))
  refine cons (callv en45 (.cons (.t rfl) .nil) (fun w I => r15check_ok _ w) ?_)
  refine cons (opv (Ev.neq_i (.t rfl) (.c (v := I 0) rfl)) ?_)
  refine cons (opv (Ev.move (.t rfl)) (cons (opg rfl rfl (Ev.ldx a ty31 (.t rfl) (Lens.id _)) ?_)))
  refine cons (callg rfl rfl en63 (.cons (.g rfl id) .nil) (fun hg w I => r15checkA_ok _ w) ?_)
  refine cons (opg rfl rfl (Ev.neq_i (.g rfl id) (.c (v := I 0) rfl)) ?_)
  refine cons (opv (Ev.pickO (.t rfl) (.c (v := .bool true) rfl) (fun {_} h => by cases h; rfl) ⟨_, rfl⟩ (by intro h1 h; first | (rw [h] <;> rfl) | (rw [h1, h] <;> rfl) | (rw [h, h1] <;> rfl) | simp_all)) ?_)
  refine cons (opv (Ev.move (.t rfl)) (cons (opg rfl rfl (Ev.fieldAddr (o := 0) (.t rfl) (by kernel_rfl)) ?_)))
  refine cons (opg rfl rfl (Ev.ldx a.v6 ty4 (.g rfl id) SAddr.l_v6) ?_)
  refine cons (opg rfl rfl (Ev.fieldAddr (o := 0) (.t rfl) (by kernel_rfl)) ?_)
  refine cons (opg rfl rfl (Ev.fieldAddr (o := 0) (.g rfl id) (by kernel_rfl)) ?_)
  refine cons (opg rfl rfl (Ev.ldx p.addr.v6 ty4 (.g rfl id) (Lens.comp SPrefix.l_addr SAddr.l_v6)) ?_)
  refine cons (opg rfl rfl (Ev.neq_b Try.underlying4 (.g rfl id) (.g rfl id)) ?_)
  refine cons (opv (Ev.pickO (.t rfl) (.c (v := .bool true) rfl) (fun {_} h => by cases h; rfl) ⟨_, rfl⟩ (by intro h1 h; first | (rw [h] <;> rfl) | (rw [h1, h] <;> rfl) | (rw [h, h1] <;> rfl) | simp_all)) ?_)
  refine nil (pN ?_)
  first | refine condD rfl (fun h0 => ?_) (fun h0 => ?_) | refine cond rfl (fun h0 => ?_) (fun h0 => ?_)
  · refine seq (region (cons (opv (Ev.assign (.c (v := .bool false) rfl)) ?_)))
    refine nil (pN (ret (pR (done rfl (.tmp rfl .nil) (retE ?_)))))
    have e : hasP p a = false := by
      rw [Bool.eq_false_iff]
      intro h
      have h9 := (hasP_iff _ _).1 h
      simp [h9.1, h9.2.1, h9.2.2.1] at h0
    rw [e]; rfl
  · have hr : checkP p = 0 ∧ checkA a = 0 ∧ a.v6 = p.addr.v6 := by simpa [and_assoc] using h0
    have hpb := (checkP_zero p).1 hr.1
    have hwl := wd_le p.addr
    refine skip (pN (seq (seq (region (cons (opv (Ev.assign (.c (v := I 0) rfl)) ?_))))))
    refine nil (pN (block (lp (X := Int) (fun x : Int => (0 ≤ x ∧ x ≤ p.bits) ∧ (∀ j : Int, 0 ≤ j → j < x → bitU a.b.toList j = bitU p.addr.b.toList j)) (fun x : Int => [dz, (2, true, .pointer (some ⟨b1, 0, none⟩)), (3, true, .pointer (some ⟨b2, 0, none⟩)), (5, true, I x)]) (fun x : Int => [Var b2 eAddr a 31, Var b1 ePrefix p 36]) (fun x : Int => (p.bits - x).toNat) (0) ⟨?_, ?_⟩ (fun x hx => ?_))))
    · omega
    · intro j h1 h2; omega
    obtain ⟨i, rfl⟩ : ∃ y, y = x := ⟨x, rfl⟩
    obtain ⟨hi, hz⟩ : (0 ≤ i ∧ i ≤ p.bits) ∧ (∀ j : Int, 0 ≤ j → j < i → bitU a.b.toList j = bitU p.addr.b.toList j) := hx
    show Sat _ _ [dz, (2, true, .pointer (some ⟨b1, 0, none⟩)), (3, true, .pointer (some ⟨b2, 0, none⟩)), (5, true, I i)] [Var b2 eAddr a 31, Var b1 ePrefix p 36]
    refine seq (seq (region (cons (opv (Ev.move (.t rfl)) (cons (opv (Ev.fieldAddr (o := 17) (.t rfl) (by kernel_rfl)) ?_))))))
    refine cons (opv (Ev.ldx p.bits ty3 (.t rfl) SPrefix.l_bits) ?_)
    refine cons (opv (Ev.lss_i (.t rfl) (.t rfl)) ?_)
    refine nil (pN ?_)
    first | refine condD rfl (fun h1 => ?_) (fun h1 => ?_) | refine cond rfl (fun h1 => ?_) (fun h1 => ?_)
    · try simp only [Gx.nb] at h1
      refine skip (pN (seq (block (seq (draw' (by kernel_rfl) ?_)))))
      refine tk 0 rfl (Ev.ldx a ty31 (.t rfl) (Lens.id _)) ?_
      refine tk 1 rfl (Ev.move (.t rfl)) ?_
      refine tk 3 rfl (Ev.fieldAddr (o := 0) (.t rfl) (by kernel_rfl)) ?_
      refine tk 4 rfl (Ev.ldx p.addr ty31 (.t rfl) SPrefix.l_addr) ?_
      refine tk 5 rfl (Ev.move (.t rfl)) ?_
      refine al1 2 rfl ((callv en65 (.cons (.t rfl) (.cons (.t rfl) .nil)) (fun w I => r15bit_ok _ _ w (by first | omega | (simp; omega))) ?_))
      refine hdn (al1 6 rfl ((callv en65 (.cons (.t rfl) (.cons (.t rfl) .nil)) (fun w I => r15bit_ok _ _ w (by first | omega | (simp; omega))) ?_)))
      refine hdn (tk 7 rfl (Ev.neq_b Try.underlying4 (.t rfl) (.t rfl)) ?_)
      refine ovr (pN ?_)
      first | refine condD rfl (fun h2 => ?_) (fun h2 => ?_) | refine cond rfl (fun h2 => ?_) (fun h2 => ?_)
      · have hne : ¬ bitU a.b.toList i = bitU p.addr.b.toList i := fun e => by
          rw [e] at h2
          simp at h2
        refine seq (region (cons (opv (Ev.assign (.c (v := .bool false) rfl)) ?_)))
        refine nil (pN (ret (bR (pR (pR (bR (pR (done rfl (.tmp rfl .nil) (retE ?_)))))))))
        have e : hasP p a = false := by
          rw [Bool.eq_false_iff]
          intro h
          exact hne (((hasP_iff _ _).1 h).2.2.2 i hi.1 h1)
        rw [e]; rfl
      · have heq : bitU a.b.toList i = bitU p.addr.b.toList i := by
          have h9 : decide (bitU a.b.toList i = 1) = decide (bitU p.addr.b.toList i = 1) := by simpa using h2
          exact dec_bit.1 h9
        refine skip (bN (pN (region (cons (opv (Ev.move (.t rfl)) (cons (opv (Ev.add_i (.t rfl) (.c (v := I 1) rfl) (fun _ => by omega)) ?_)))))))
        refine cons (opv (Ev.assign (.t rfl)) (nil (pN (nx (X := Int) (i + 1) ⟨?_, ?_⟩ ?_))))
        · try dsimp only
          omega
        · try dsimp only
          intro j h1a h2a
          by_cases e : j = i
          · rw [e]; exact heq
          · exact hz j h1a (by omega)
        · try dsimp only
          omega
    · try simp only [Gx.nb] at h1
      refine exit (pX (pX (bX (pN (seq (region (cons (opv (Ev.assign (.c (v := .bool true) rfl)) ?_))))))))
      refine nil (pN (ret (done rfl (.tmp rfl .nil) (retE ?_))))
      have e : hasP p a = true := (hasP_iff _ _).2 ⟨hr.1, hr.2.1, hr.2.2, fun j h1a h2a => hz j h1a (by omega)⟩
      rw [e]; rfl

theorem en67 : Gx.Enters Try.prog 67 := Gx.Enters.mk' (by kernel_rfl)

theorem r15covers_ok (p q : SPrefix) (w : World) : Calls Try.prog 68 #[ePrefix.val p, ePrefix.val q] w (RetV w (.bool (coversP p q))) := by
  refine enter0 21 Try.func68 rfl rfl (Nat.le_of_ble_eq_true rfl) ?_
  refine seq (region (cons (box (E := ePrefix) (.t rfl) (fun b1 => ?_))))
  refine cons (box (E := ePrefix) (.t rfl) (fun b2 => ?_))
  refine cons (opv (Ev.assign (.c (v := .bool false) rfl)) ?_)
  refine nil (pN (seq (region (cons (opv (Ev.ldx q ty36 (.t rfl) (Lens.id _)) ?_)))))
  refine cons (callv en45 (.cons (.t rfl) .nil) (fun w I => r15check_ok _ w) ?_)
  refine cons (opv (Ev.eql_i (.t rfl) (.c (v := I 0) rfl)) ?_)
  refine cons (opv (Ev.move (.t rfl)) (cons (opg rfl rfl (Ev.fieldAddr (o := 17) (.t rfl) (by kernel_rfl)) ?_)))
  refine cons (opg rfl rfl (Ev.ldx p.bits ty3 (.g rfl id) SPrefix.l_bits) ?_)
  refine cons (opg rfl rfl (Ev.fieldAddr (o := 17) (.t rfl) (by kernel_rfl)) ?_)
  refine cons (opg rfl rfl (Ev.ldx q.bits ty3 (.g rfl id) SPrefix.l_bits) ?_)
  refine cons (opg rfl rfl (Ev.leq_i (.g rfl id) (.g rfl id)) ?_)
  refine cons (opv (Ev.pickA (.t rfl) (fun {_} h => by cases h; rfl) ⟨_, rfl⟩ (by intro h1 h; first | (rw [h] <;> rfl) | (rw [h1, h] <;> rfl) | (rw [h, h1] <;> rfl) | simp_all) (.c (v := .bool false) rfl)) ?_)
  refine cons (opv (Ev.move (.t rfl)) (cons (opg rfl rfl (Ev.ldx p ty36 (.t rfl) (Lens.id _)) ?_)))
  refine cons (opg rfl rfl (Ev.fieldAddr (o := 0) (.t rfl) (by kernel_rfl)) ?_)
  refine cons (opg rfl rfl (Ev.ldx q.addr ty31 (.g rfl id) SPrefix.l_addr) ?_)
  refine cons (callg rfl rfl en67 (.cons (.g rfl id) (.cons (.g rfl id) .nil)) (fun hg w I => r15has_ok _ _ w) ?_)
  refine cons (opv (Ev.pickA (.t rfl) (fun {_} h => by cases h; rfl) ⟨_, rfl⟩ (by intro h1 h; first | (rw [h] <;> rfl) | (rw [h1, h] <;> rfl) | (rw [h, h1] <;> rfl) | simp_all) (.c (v := .bool false) rfl)) ?_)
  refine cons (opv (Ev.assign (.t rfl)) (nil (pN (ret (done rfl (.tmp rfl .nil) (retE ?_))))))
  simp [coversP, tupV]

theorem cmp_step (xs ys : List UInt8) (i : Nat) (h1 : i < xs.length) (h2 : i < ys.length) :
    Lib.compareBytes (xs.drop i) (ys.drop i) = if xs.getD i 0 < ys.getD i 0 then -1 else if ys.getD i 0 < xs.getD i 0 then 1 else Lib.compareBytes (xs.drop (i + 1)) (ys.drop (i + 1)) := by
  rw [List.drop_eq_getElem_cons h1, List.drop_eq_getElem_cons h2]
  have e1 : xs.getD i 0 = xs[i] := by simp [List.getD, h1]
  have e2 : ys.getD i 0 = ys[i] := by simp [List.getD, h2]
  rw [e1, e2]
  rfl

theorem r15cmp_ok (p q : SPrefix) (w : World) : Calls Try.prog 66 #[ePrefix.val p, ePrefix.val q] w (RetV w (I (cmpP p q))) := by
  refine enter0 52 Try.func66 rfl rfl (Nat.le_of_ble_eq_true rfl) ?_
  refine seq (region (cons (box (E := ePrefix) (.t rfl) (fun b1 => ?_))))
  refine cons (box (E := ePrefix) (.t rfl) (fun b2 => ?_))
  refine cons (opv (Ev.assign (.c (v := I 0) rfl)) ?_)
  refine nil (pN (seq (seq (region (cons (opv (Ev.fieldAddr (o := 0) (.t rfl) (by kernel_rfl)) ?_))))))
  refine cons (opv (Ev.fieldAddr (o := 0) (.t rfl) (by kernel_rfl)) ?_)
  refine cons (opv (Ev.ldx p.addr.v6 ty4 (.t rfl) (Lens.comp SPrefix.l_addr SAddr.l_v6)) ?_)
  refine cons (opv (Ev.fieldAddr (o := 0) (.t rfl) (by kernel_rfl)) ?_)
  refine cons (opv (Ev.fieldAddr (o := 0) (.t rfl) (by kernel_rfl)) ?_)
  refine cons (opv (Ev.ldx q.addr.v6 ty4 (.t rfl) (Lens.comp SPrefix.l_addr SAddr.l_v6)) ?_)
  refine cons (opv (Ev.neq_b Try.underlying4 (.t rfl) (.t rfl)) ?_)
  refine nil (pN ?_)
  first | refine condD rfl (fun h0 => ?_) (fun h0 => ?_) | refine cond rfl (fun h0 => ?_) (fun h0 => ?_)
  · refine seq (seq (region (cons (opv (Ev.fieldAddr (o := 0) (.t rfl) (by kernel_rfl)) ?_))))
    refine cons (opv (Ev.fieldAddr (o := 0) (.t rfl) (by kernel_rfl)) ?_)
    refine cons (opv (Ev.ldx q.addr.v6 ty4 (.t rfl) (Lens.comp SPrefix.l_addr SAddr.l_v6)) ?_)
    refine nil (pN ?_)
    first | refine condD rfl (fun h1 => ?_) (fun h1 => ?_) | refine cond rfl (fun h1 => ?_) (fun h1 => ?_)
    · try simp only [Gx.nb] at h1
      refine seq (region (cons (opv (Ev.assign (.c (v := I (-1)) rfl)) ?_)))
      refine nil (pN (ret (pR (pR (done rfl (.tmp rfl .nil) (retE ?_))))))
      have e : cmpP p q = -1 := by
        unfold cmpP
        rw [if_neg (show ¬ p.addr.v6 = q.addr.v6 from by simpa using h0)]
        have h9 : q.addr.v6 = true := h1
        have h8 : ¬ p.addr.v6 = q.addr.v6 := by simpa using h0
        cases hp : p.addr.v6 with
        | false => rfl
        | true => exact absurd (hp.trans h9.symm) h8
      rw [e]; rfl
    · try simp only [Gx.nb] at h1
      refine skip (pN (seq (region (cons (opv (Ev.assign (.c (v := I 1) rfl)) ?_)))))
      refine nil (pN (ret (pR (done rfl (.tmp rfl .nil) (retE ?_)))))
      have e : cmpP p q = 1 := by
        unfold cmpP
        rw [if_neg (show ¬ p.addr.v6 = q.addr.v6 from by simpa using h0)]
        have h9 : q.addr.v6 = false := h1
        have h8 : ¬ p.addr.v6 = q.addr.v6 := by simpa using h0
        cases hp : p.addr.v6 with
        | true => rfl
        | false => exact absurd (hp.trans h9.symm) h8
      rw [e]; rfl
  · have hv : p.addr.v6 = q.addr.v6 := by simpa using h0
    refine skip (pN (seq (seq (region (cons (opv (Ev.assign (.c (v := I 0) rfl)) ?_))))))
    refine nil (pN (block (lp (X := Int) (fun x : Int => (0 ≤ x ∧ x ≤ 16) ∧ (Lib.compareBytes (p.addr.b.toList.drop x.toNat) (q.addr.b.toList.drop x.toNat) = Lib.compareBytes p.addr.b.toList q.addr.b.toList)) (fun x : Int => [dz, (2, true, .pointer (some ⟨b1, 0, none⟩)), (3, true, .pointer (some ⟨b2, 0, none⟩)), (5, true, I x)]) (fun x : Int => [Var b2 ePrefix q 36, Var b1 ePrefix p 36]) (fun x : Int => (16 - x).toNat) (0) ⟨?_, ?_⟩ (fun x hx => ?_))))
    · omega
    · rfl
    obtain ⟨i, rfl⟩ : ∃ y, y = x := ⟨x, rfl⟩
    obtain ⟨hi, hh⟩ : (0 ≤ i ∧ i ≤ 16) ∧ (Lib.compareBytes (p.addr.b.toList.drop i.toNat) (q.addr.b.toList.drop i.toNat) = Lib.compareBytes p.addr.b.toList q.addr.b.toList) := hx
    show Sat _ _ [dz, (2, true, .pointer (some ⟨b1, 0, none⟩)), (3, true, .pointer (some ⟨b2, 0, none⟩)), (5, true, I i)] [Var b2 ePrefix q 36, Var b1 ePrefix p 36]
    refine seq (seq (region (cons (opv (Ev.move (.t rfl)) (cons (opv (Ev.lss_i (.t rfl) (.c (v := I 16) rfl)) ?_))))))
    refine nil (pN ?_)
    first | refine condD rfl (fun h2 => ?_) (fun h2 => ?_) | refine cond rfl (fun h2 => ?_) (fun h2 => ?_)
    · try simp only [Gx.nb] at h2
      refine skip (pN (seq (block (seq (seq (draw' (by kernel_rfl) ?_))))))
      have hst := cmp_step p.addr.b.toList q.addr.b.toList i.toNat (by simp; omega) (by simp; omega)
      rw [vec_getD _ _ (by omega), vec_getD _ _ (by omega)] at hst
      refine tk 0 rfl (Ev.move (.t rfl)) ?_
      refine tk 1 rfl (Ev.fieldAddr (o := 0) (.t rfl) (by kernel_rfl)) ?_
      refine tk 2 rfl (Ev.fieldAddr (o := 1) (.t rfl) (by kernel_rfl)) ?_
      refine tk 3 rfl (Ev.indexAddrA Try.underlying29 ty5 (.t rfl) (.t rfl) (fun _ => by omega)) ?_
      refine tk 4 rfl (Ev.ldv ty5 (.t rfl) (Lens.comp (Lens.comp SPrefix.l_addr SAddr.l_b) (lArr (n := 16) u8E _ (by omega)))) ?_
      refine tk 5 rfl (Ev.move (.t rfl)) ?_
      refine tk 6 rfl (Ev.fieldAddr (o := 0) (.t rfl) (by kernel_rfl)) ?_
      refine tk 7 rfl (Ev.fieldAddr (o := 1) (.t rfl) (by kernel_rfl)) ?_
      refine tk 8 rfl (Ev.indexAddrA Try.underlying29 ty5 (.t rfl) (.t rfl) (fun _ => by omega)) ?_
      refine tk 9 rfl (Ev.ldv ty5 (.t rfl) (Lens.comp (Lens.comp SPrefix.l_addr SAddr.l_b) (lArr (n := 16) u8E _ (by omega)))) ?_
      refine tk 10 rfl (Ev.lss_u8 (.t rfl) (.t rfl)) ?_
      refine ovr (pN ?_)
      first | refine condD rfl (fun h3 => ?_) (fun h3 => ?_) | refine cond rfl (fun h3 => ?_) (fun h3 => ?_)
      · try simp only [Gx.nb] at h3
        have k3 : p.addr.b[i.toNat]'(by omega) < q.addr.b[i.toNat]'(by omega) := h3
        refine seq (region (cons (opv (Ev.assign (.c (v := I (-1)) rfl)) ?_)))
        refine nil (pN (ret (pR (bR (pR (pR (bR (pR (done rfl (.tmp rfl .nil) (retE ?_))))))))))
        have e : cmpP p q = -1 := by
          unfold cmpP
          rw [if_pos hv, ← hh, hst, if_pos k3]; rfl
        rw [e]; rfl
      · try simp only [Gx.nb] at h3
        have k3 : ¬ (p.addr.b[i.toNat]'(by omega) < q.addr.b[i.toNat]'(by omega)) := h3
        refine skip (pN (seq (draw' (by kernel_rfl) ?_)))
        refine tk 0 rfl (Ev.move (.t rfl)) ?_
        refine tk 1 rfl (Ev.fieldAddr (o := 0) (.t rfl) (by kernel_rfl)) ?_
        refine tk 2 rfl (Ev.fieldAddr (o := 1) (.t rfl) (by kernel_rfl)) ?_
        refine tk 3 rfl (Ev.indexAddrA Try.underlying29 ty5 (.t rfl) (.t rfl) (fun _ => by omega)) ?_
        refine tk 4 rfl (Ev.ldv ty5 (.t rfl) (Lens.comp (Lens.comp SPrefix.l_addr SAddr.l_b) (lArr (n := 16) u8E _ (by omega)))) ?_
        refine tk 5 rfl (Ev.move (.t rfl)) ?_
        refine tk 6 rfl (Ev.fieldAddr (o := 0) (.t rfl) (by kernel_rfl)) ?_
        refine tk 7 rfl (Ev.fieldAddr (o := 1) (.t rfl) (by kernel_rfl)) ?_
        refine tk 8 rfl (Ev.indexAddrA Try.underlying29 ty5 (.t rfl) (.t rfl) (fun _ => by omega)) ?_
        refine tk 9 rfl (Ev.ldv ty5 (.t rfl) (Lens.comp (Lens.comp SPrefix.l_addr SAddr.l_b) (lArr (n := 16) u8E _ (by omega)))) ?_
        refine tk 10 rfl (Ev.gtr_u8 (.t rfl) (.t rfl)) ?_
        refine ovr (pN ?_)
        first | refine condD rfl (fun h4 => ?_) (fun h4 => ?_) | refine cond rfl (fun h4 => ?_) (fun h4 => ?_)
        · try simp only [Gx.nb] at h4
          have k4 : q.addr.b[i.toNat]'(by omega) < p.addr.b[i.toNat]'(by omega) := h4
          refine seq (region (cons (opv (Ev.assign (.c (v := I 1) rfl)) ?_)))
          refine nil (pN (ret (bR (pR (pR (bR (pR (done rfl (.tmp rfl .nil) (retE ?_)))))))))
          have e : cmpP p q = 1 := by
            unfold cmpP
            rw [if_pos hv, ← hh, hst, if_neg k3, if_pos k4]; rfl
          rw [e]; rfl
        · try simp only [Gx.nb] at h4
          have k4 : ¬ (q.addr.b[i.toNat]'(by omega) < p.addr.b[i.toNat]'(by omega)) := h4
          refine skip (bN (pN (region (cons (opv (Ev.move (.t rfl)) (cons (opv (Ev.add_i (.t rfl) (.c (v := I 1) rfl) (fun _ => by omega)) ?_)))))))
          refine cons (opv (Ev.assign (.t rfl)) (nil (pN (nx (X := Int) (i + 1) ⟨?_, ?_⟩ ?_))))
          · try dsimp only
            omega
          · try dsimp only
            rw [show (i + 1).toNat = i.toNat + 1 by omega, ← hh, hst]
            exact ((if_neg k3).trans (if_neg k4)).symm
          · try dsimp only
            omega
    · try simp only [Gx.nb] at h2
      refine exit (pX (pX (bX (pN (seq (seq (region (cons (opv (Ev.fieldAddr (o := 17) (.t rfl) (by kernel_rfl)) ?_)))))))))
      refine cons (opv (Ev.ldx p.bits ty3 (.t rfl) SPrefix.l_bits) ?_)
      refine cons (opv (Ev.fieldAddr (o := 17) (.t rfl) (by kernel_rfl)) ?_)
      refine cons (opv (Ev.ldx q.bits ty3 (.t rfl) SPrefix.l_bits) ?_)
      refine cons (opv (Ev.lss_i (.t rfl) (.t rfl)) ?_)
      refine nil (pN ?_)
      first | refine condD rfl (fun h5 => ?_) (fun h5 => ?_) | refine cond rfl (fun h5 => ?_) (fun h5 => ?_)
      · try simp only [Gx.nb] at h5
        refine seq (region (cons (opv (Ev.assign (.c (v := I (-1)) rfl)) ?_)))
        refine nil (pN (ret (pR (done rfl (.tmp rfl .nil) (retE ?_)))))
        have h16 : i = 16 := by omega
        subst h16
        have hb0 : Lib.compareBytes p.addr.b.toList q.addr.b.toList = 0 := by
          rw [← hh, List.drop_eq_nil_of_le (by simp), List.drop_eq_nil_of_le (by simp)]; rfl
        have e : cmpP p q = -1 := by
          unfold cmpP cmpI
          rw [if_pos hv, if_pos hb0, if_pos h5]
        rw [e]; rfl
      · try simp only [Gx.nb] at h5
        refine skip (pN (seq (seq (region (cons (opv (Ev.fieldAddr (o := 17) (.t rfl) (by kernel_rfl)) ?_))))))
        refine cons (opv (Ev.ldx p.bits ty3 (.t rfl) SPrefix.l_bits) ?_)
        refine cons (opv (Ev.fieldAddr (o := 17) (.t rfl) (by kernel_rfl)) ?_)
        refine cons (opv (Ev.ldx q.bits ty3 (.t rfl) SPrefix.l_bits) ?_)
        refine cons (opv (Ev.gtr_i (.t rfl) (.t rfl)) ?_)
        refine nil (pN ?_)
        first | refine condD rfl (fun h6 => ?_) (fun h6 => ?_) | refine cond rfl (fun h6 => ?_) (fun h6 => ?_)
        · try simp only [Gx.nb] at h6
          refine seq (region (cons (opv (Ev.assign (.c (v := I 1) rfl)) ?_)))
          refine nil (pN (ret (pR (done rfl (.tmp rfl .nil) (retE ?_)))))
          have h16 : i = 16 := by omega
          subst h16
          have hb0 : Lib.compareBytes p.addr.b.toList q.addr.b.toList = 0 := by
            rw [← hh, List.drop_eq_nil_of_le (by simp), List.drop_eq_nil_of_le (by simp)]; rfl
          have e : cmpP p q = 1 := by
            unfold cmpP cmpI
            rw [if_pos hv, if_pos hb0, if_neg h5, if_pos h6]
          rw [e]; rfl
        · try simp only [Gx.nb] at h6
          refine skip (pN (seq (region (cons (opv (Ev.assign (.c (v := I 0) rfl)) ?_)))))
          refine nil (pN (ret (done rfl (.tmp rfl .nil) (retE ?_))))
          have h16 : i = 16 := by omega
          subst h16
          have hb0 : Lib.compareBytes p.addr.b.toList q.addr.b.toList = 0 := by
            rw [← hh, List.drop_eq_nil_of_le (by simp), List.drop_eq_nil_of_le (by simp)]; rfl
          have e : cmpP p q = 0 := by
            unfold cmpP cmpI
            rw [if_pos hv, if_pos hb0, if_neg h5, if_neg h6]
          rw [e]; rfl

theorem r15same_ok (u v : Value) (xs ys : List SPrefix) (w : World) (hx : IsSl ePrefix w u xs) (hy : IsSl ePrefix w v ys) : Calls Try.prog 52 #[u, v] w (RetV w (.bool (decide (xs = ys)))) := by
  have hle1 := hx.le
  have hle2 := hy.le
  refine enter0 26 Try.func52 rfl rfl (Nat.le_of_ble_eq_true rfl) ?_
  refine seq (region (cons (opv (Ev.assign (.c (v := .bool false) rfl)) ?_)))
  refine nil (pN (seq (seq (region (cons (opv (Ev.move (.t rfl)) (cons (opv (Ev.len Try.underlying51 (.t rfl) (fun w I => hx.keep0 I.keeps)) ?_))))))))
  refine cons (opv (Ev.move (.t rfl)) (cons (opv (Ev.len Try.underlying51 (.t rfl) (fun w I => hy.keep0 I.keeps)) ?_)))
  refine cons (opv (Ev.neq_i (.t rfl) (.t rfl)) ?_)
  refine nil (pN ?_)
  first | refine condD rfl (fun h0 => ?_) (fun h0 => ?_) | refine cond rfl (fun h0 => ?_) (fun h0 => ?_)
  · refine seq (region (cons (opv (Ev.assign (.c (v := .bool false) rfl)) ?_)))
    refine nil (pN (ret (pR (done rfl (.tmp rfl .nil) (retE ?_)))))
    have e : ¬ xs = ys := fun e => by rw [e] at h0; simp at h0
    rw [decide_eq_false e]; rfl
  · have hl : xs.length = ys.length := by
      have h9 : (xs.length : Int) = ys.length := by simpa using h0
      omega
    refine skip (pN (seq (seq (region (cons (opv (Ev.assign (.c (v := I 0) rfl)) ?_))))))
    refine nil (pN (block (lp (X := Int) (fun x : Int => (0 ≤ x ∧ x ≤ xs.length) ∧ (∀ j : Nat, j < x → xs.getD j ePrefix.zero = ys.getD j ePrefix.zero)) (fun x : Int => [dz, (0, true, u), (1, true, v), (5, true, I x)]) (fun x : Int => []) (fun x : Int => ((xs.length : Int) - x).toNat) (0) ⟨?_, ?_⟩ (fun x hx => ?_))))
    · omega
    · intro j h; omega
    obtain ⟨i, rfl⟩ : ∃ y, y = x := ⟨x, rfl⟩
    obtain ⟨hi, hz⟩ : (0 ≤ i ∧ i ≤ xs.length) ∧ (∀ j : Nat, j < i → xs.getD j ePrefix.zero = ys.getD j ePrefix.zero) := hx
    show Sat _ _ [dz, (0, true, u), (1, true, v), (5, true, I i)] []
    refine seq (seq (region (cons (opv (Ev.move (.t rfl)) (cons (opv (Ev.move (.t rfl)) (cons (opv (Ev.len Try.underlying51 (.t rfl) (fun w I => hx.keep0 I.keeps)) ?_))))))))
    refine cons (opv (Ev.lss_i (.t rfl) (.t rfl)) ?_)
    refine nil (pN ?_)
    first | refine condD rfl (fun h1 => ?_) (fun h1 => ?_) | refine cond rfl (fun h1 => ?_) (fun h1 => ?_)
    · try simp only [Gx.nb] at h1
      refine skip (pN (seq (block (seq (draw' (by kernel_rfl) ?_)))))
      refine tk 0 rfl (Ev.move (.t rfl)) ?_
      refine tk 1 rfl (Ev.move (.t rfl)) ?_
      refine tk 2 rfl (Ev.indexAddr Try.underlying51 ty36 (.t rfl) (.t rfl) (fun w I => hx.keep0 I.keeps) (fun _ => by omega)) ?_
      refine tk 3 rfl (Ev.loadS0 ty36 (.t rfl) (fun w I => hx.keep0 I.keeps) (fun _ => by omega)) ?_
      refine tk 4 rfl (Ev.move (.t rfl)) ?_
      refine tk 5 rfl (Ev.move (.t rfl)) ?_
      refine tk 6 rfl (Ev.indexAddr Try.underlying51 ty36 (.t rfl) (.t rfl) (fun w I => hy.keep0 I.keeps) (fun _ => by omega)) ?_
      refine tk 7 rfl (Ev.loadS0 ty36 (.t rfl) (fun w I => hy.keep0 I.keeps) (fun _ => by omega)) ?_
      refine tk 8 rfl (Ev.neqS rfl eqok36 rfl (by kernel_rfl) (.t rfl) (.t rfl)) ?_
      refine ovr (pN ?_)
      first | refine condD rfl (fun h2 => ?_) (fun h2 => ?_) | refine cond rfl (fun h2 => ?_) (fun h2 => ?_)
      · have hne : ¬ xs.getD i.toNat ePrefix.zero = ys.getD i.toNat ePrefix.zero := by simpa [-List.getD_eq_getElem?_getD] using h2
        refine seq (region (cons (opv (Ev.assign (.c (v := .bool false) rfl)) ?_)))
        refine nil (pN (ret (bR (pR (pR (bR (pR (done rfl (.tmp rfl .nil) (retE ?_)))))))))
        have e : ¬ xs = ys := fun e => hne (by rw [e])
        rw [decide_eq_false e]; rfl
      · have heq : xs.getD i.toNat ePrefix.zero = ys.getD i.toNat ePrefix.zero := by simpa [-List.getD_eq_getElem?_getD] using h2
        refine skip (bN (pN (region (cons (opv (Ev.move (.t rfl)) (cons (opv (Ev.add_i (.t rfl) (.c (v := I 1) rfl) (fun _ => by omega)) ?_)))))))
        refine cons (opv (Ev.assign (.t rfl)) (nil (pN (nx (X := Int) (i + 1) ⟨?_, ?_⟩ ?_))))
        · try dsimp only
          omega
        · try dsimp only
          intro j hj
          by_cases e : (j : Int) < i
          · exact hz j e
          · obtain rfl : j = i.toNat := by omega
            exact heq
        · try dsimp only
          omega
    · try simp only [Gx.nb] at h1
      refine exit (pX (pX (bX (pN (seq (region (cons (opv (Ev.assign (.c (v := .bool true) rfl)) ?_))))))))
      refine nil (pN (ret (done rfl (.tmp rfl .nil) (retE ?_))))
      have e : xs = ys := by
        apply List.ext_getElem hl
        intro k h1a h2a
        have h9 := hz k (by omega)
        rwa [getD_at h1a, getD_at h2a] at h9
      rw [decide_eq_true e]; rfl
end Go.Proofs.Ytjjlofjpdklbgaa
/- trie -/
set_option linter.unusedVariables false
set_option linter.unusedSimpArgs false
namespace Go.Proofs.Ytjjlofjpdklbgaa
open Go Go.Gx

/-- A byte without one of its bits. -/
def clr (x m : UInt8) : UInt8 := if x &&& m = 0 then x else x - m
set_option maxRecDepth 100000 in
theorem clr_dec : ∀ n : Fin 256, ∀ j : Fin 8, ∀ i : Fin 8, bn (clr (UInt8.ofNat n.val) (shl8 1 (7 - j.val))).toNat (7 - i.val) = if i.val = j.val then 0 else bn n.val (7 - i.val) := by decide +kernel
theorem clr_bit (x : UInt8) {j i : Nat} (hj : j < 8) (hi : i < 8) : bitOf (clr x (shl8 1 (7 - j))) i = if i = j then 0 else bitOf x i := by
  have h := clr_dec ⟨x.toNat, x.toNat_lt⟩ ⟨j, hj⟩ ⟨i, hi⟩
  simp only [UInt8.ofNat_toNat] at h
  apply UInt8.toNat_inj.1
  rw [bitOf_toNat, h]
  split
  · rfl
  · rw [bitOf_toNat]
/-- An address without one of its bits. -/
def clrA (a : SAddr) (i : Int) : SAddr := if h : (i / 8).toNat < 16 then { a with b := a.b.set (i / 8).toNat (clr a.b[(i / 8).toNat] (shl8 1 (7 - i % 8).toNat)) h } else a
theorem clrA_v6 (a : SAddr) (i : Int) : (clrA a i).v6 = a.v6 := by
  unfold clrA
  split <;> rfl
theorem clrA_bit (a : SAddr) {i : Int} (h0 : 0 ≤ i) (h1 : i < 128) {j : Int} (j0 : 0 ≤ j) (j1 : j < 128) : bitU (clrA a i).b.toList j = if j = i then 0 else bitU a.b.toList j := by
  have hk : (i / 8).toNat < 16 := by omega
  have e : j = 8 * ((j / 8).toNat : Int) + ((j % 8).toNat : Int) := by omega
  have ej : (7 - i % 8).toNat = 7 - (i % 8).toNat := by omega
  unfold clrA
  rw [dif_pos hk, ej]
  conv => lhs; rw [e]
  conv => rhs; rw [e]
  rw [bitU_at _ _ _ (by omega), bitU_at _ _ _ (by omega), vec_getD _ _ (by omega), vec_getD _ _ (by omega)]
  by_cases hq : (j / 8).toNat = (i / 8).toNat
  · have e2 : ∀ (x : UInt8), (a.b.set (i / 8).toNat x hk)[(j / 8).toNat]'(by omega) = x := fun x => by
      rw [Vector.getElem_set, if_pos hq.symm]
    have e3 : a.b[(j / 8).toNat]'(by omega) = a.b[(i / 8).toNat] := by simp only [hq]
    rw [e2, clr_bit _ (by omega) (by omega), e3]
    by_cases hi : (j % 8).toNat = (i % 8).toNat
    · rw [if_pos hi, if_pos (by omega)]
    · rw [if_neg hi, if_neg (by omega)]
  · rw [Vector.getElem_set, if_neg (fun h => hq h.symm), if_neg (by omega)]

theorem wd_to (c a : SAddr) (h : c.v6 = a.v6) (w : World) : Calls Try.prog 64 #[eAddr.val c] w (RetV w (I (wd a))) := by
  have e : wd a = wd c := by unfold wd; rw [h]
  rw [e]
  exact r15width_ok c w

theorem with_ok (a : SAddr) (i : Int) (w : World) (h : 0 ≤ i ∧ i < 128) : Calls Try.prog 75 #[eAddr.val a, I i, .bool false] w (RetV w (eAddr.val (clrA a i))) := by
  refine enter0 44 Try.func75 rfl rfl (Nat.le_of_ble_eq_true rfl) ?_
  refine seq (region (cons (box (E := eAddr) (.t rfl) (fun b1 => ?_))))
  refine cons (alloc z31 (fun b2 => ?_))
  refine nil (pN (seq (region (cons (opv (Ev.move (.t rfl)) (cons (opv (Ev.rem_n (.t rfl) (.c (v := I 8) rfl) (fun _ => by omega) (fun _ => by omega)) ?_)))))))
  refine cons (opv (Ev.sub_i (.c (v := I 7) rfl) (.t rfl) (fun _ => by omega)) ?_)
  refine cons (opv (Ev.shl_u8 (.c (v := U8 1) rfl) (.t rfl) (fun _ => by omega)) ?_)
  refine cons (opv (Ev.assign (.t rfl)) (nil (pN (seq (seq (region (cons (opv (Ev.move (.t rfl)) (nil (pN (condF rfl (rfl) ?_)))))))))))
  refine seq (region (cons (opv (Ev.move (.t rfl)) (cons (opv (Ev.quo_n (.t rfl) (.c (v := I 8) rfl) (fun _ => by omega) (fun _ => by omega) (fun _ => by omega)) ?_)))))
  refine cons (opv (Ev.fieldAddr (o := 1) (.t rfl) (by kernel_rfl)) ?_)
  refine cons (opv (Ev.indexAddrA Try.underlying29 ty5 (.t rfl) (.t rfl) (fun _ => by omega)) ?_)
  refine cons (opv (Ev.ldv ty5 (.t rfl) (Lens.comp SAddr.l_b (lArr (n := 16) u8E _ (by omega)))) ?_)
  refine cons (opv (Ev.move (.t rfl)) (cons (opv (Ev.and_u8 (.t rfl) (.t rfl)) ?_)))
  refine cons (opv (Ev.neq_u8 (.t rfl) (.c (v := U8 0) rfl)) ?_)
  refine nil (pN ?_)
  first | refine condD rfl (fun h1 => ?_) (fun h1 => ?_) | refine cond rfl (fun h1 => ?_) (fun h1 => ?_)
  · refine region (cons (opv (Ev.move (.t rfl)) (cons (opv (Ev.quo_n (.t rfl) (.c (v := I 8) rfl) (fun _ => by omega) (fun _ => by omega) (fun _ => by omega)) ?_))))
    refine cons (opv (Ev.move (.t rfl)) (cons (opv (Ev.quo_n (.t rfl) (.c (v := I 8) rfl) (fun _ => by omega) (fun _ => by omega) (fun _ => by omega)) ?_)))
    refine cons (opv (Ev.fieldAddr (o := 1) (.t rfl) (by kernel_rfl)) ?_)
    refine cons (opv (Ev.indexAddrA Try.underlying29 ty5 (.t rfl) (.t rfl) (fun _ => by omega)) ?_)
    refine cons (opv (Ev.ldv ty5 (.t rfl) (Lens.comp SAddr.l_b (lArr (n := 16) u8E _ (by omega)))) ?_)
    refine cons (opv (Ev.move (.t rfl)) (cons (opv (Ev.sub_u8 (.t rfl) (.t rfl)) ?_)))
    refine cons (opv (Ev.fieldAddr (o := 1) (.t rfl) (by kernel_rfl)) ?_)
    refine cons (opv (Ev.indexAddrA Try.underlying29 ty5 (.t rfl) (.t rfl) (fun _ => by omega)) ?_)
    refine cons (stv ty5 (Lens.comp SAddr.l_b (lArr (n := 16) u8E _ (by omega))) (.t rfl) (.t rfl) ?_)
    refine nil (pN (seq (region (cons (opv (Ev.ldv ty31 (.t rfl) (Lens.id _)) ?_)))))
    refine cons (stv ty31 (Lens.id _) (.t rfl) (.t rfl) ?_)
    refine nil (pN (ret (done rfl (.cell rfl (fun w I => run_loadVar_pts ty31 (ptsVar (by repeat first | exact mH | apply mT | apply mA) (Lens.id _) w I)) .nil) (retE ?_))))
    have hk : (i / 8).toNat < 16 := by omega
    first
      | (have h2 : a.b[(i / 8).toNat] &&& shl8 1 (7 - i % 8).toNat = 0 := Decidable.not_not.1 h1
         have e : clrA a i = a := by
           unfold clrA clr
           rw [dif_pos hk, if_pos h2, Vector.set_getElem_self]
         rw [e]
         rfl)
      | (have h2 : ¬ a.b[(i / 8).toNat] &&& shl8 1 (7 - i % 8).toNat = 0 := h1
         have e : clrA a i = { a with b := a.b.set (i / 8).toNat (a.b[(i / 8).toNat] - shl8 1 (7 - i % 8).toNat) hk } := by
           unfold clrA clr
           rw [dif_pos hk, if_neg h2]
         rw [e]
         rfl)
  · refine skip (pN (seq (region (cons (opv (Ev.ldv ty31 (.t rfl) (Lens.id _)) ?_)))))
    refine cons (stv ty31 (Lens.id _) (.t rfl) (.t rfl) ?_)
    refine nil (pN (ret (done rfl (.cell rfl (fun w I => run_loadVar_pts ty31 (ptsVar (by repeat first | exact mH | apply mT | apply mA) (Lens.id _) w I)) .nil) (retE ?_))))
    have hk : (i / 8).toNat < 16 := by omega
    first
      | (have h2 : a.b[(i / 8).toNat] &&& shl8 1 (7 - i % 8).toNat = 0 := Decidable.not_not.1 h1
         have e : clrA a i = a := by
           unfold clrA clr
           rw [dif_pos hk, if_pos h2, Vector.set_getElem_self]
         rw [e]
         rfl)
      | (have h2 : ¬ a.b[(i / 8).toNat] &&& shl8 1 (7 - i % 8).toNat = 0 := h1
         have e : clrA a i = { a with b := a.b.set (i / 8).toNat (a.b[(i / 8).toNat] - shl8 1 (7 - i % 8).toNat) hk } := by
           unfold clrA clr
           rw [dif_pos hk, if_neg h2]
         rw [e]
         rfl)

theorem en75 : Gx.Enters Try.prog 75 := Gx.Enters.mk' (by kernel_rfl)

theorem r15of_ok (a : SAddr) (n : Int) (w : World) : Calls Try.prog 74 #[eAddr.val a, I n] w (RetV w (.tuple #[ePrefix.val (ofV a n), I (ofE a n)])) := by
  have hwd := wd_le a
  refine enter0 33 Try.func74 rfl rfl (Nat.le_of_ble_eq_true rfl) ?_
  refine seq (region (cons (box (E := eAddr) (.t rfl) (fun b1 => ?_))))
  refine cons (alloc z36 (fun b2 => ?_))
  refine cons (opv (Ev.assign (.c (v := I 0) rfl)) ?_)
  refine nil (pN (seq (seq (region (cons (opv (Ev.ldv ty31 (.t rfl) (Lens.id _)) ?_))))))
  refine cons (callv en63 (.cons (.t rfl) .nil) (fun w I => r15checkA_ok _ w) ?_)
  refine cons (opv (Ev.neq_i (.t rfl) (.c (v := I 0) rfl)) ?_)
  refine nil (pN ?_)
  first | refine condD rfl (fun h0 => ?_) (fun h0 => ?_) | refine cond rfl (fun h0 => ?_) (fun h0 => ?_)
  · refine seq (region (cons (opv (Ev.buildS (fs := _) (places := [(0, 17), (17, 1)]) z36 rfl Try.underlying36 (by kernel_rfl) .nil Fills.nil) ?_)))
    refine cons (stv ty36 (Lens.id _) (.t rfl) (.t rfl) ?_)
    refine cons (opv (Ev.assign (.c (v := I 150) rfl)) ?_)
    refine nil (pN (ret (pR (done rfl (.cell rfl (fun w I => run_loadVar_pts ty36 (ptsVar (by repeat first | exact mH | apply mT | apply mA) (Lens.id _) w I)) (.tmp rfl .nil)) (retE ?_)))))
    have e2 : checkA a = 150 := by
      have h9 : ¬ checkA a = 0 := by simpa using h0
      unfold checkA at h9 ⊢
      split
      · rename_i h; rw [if_pos h] at h9; exact absurd rfl h9
      · rfl
    have e : ofE a n = 150 := by unfold ofE; rw [if_pos (by rw [e2]; decide), e2]
    unfold ofV
    rw [e]; rfl
  · have hca : checkA a = 0 := by simpa using h0
    refine skip (pN (seq (seq (region (cons (opv (Ev.move (.t rfl)) (cons (opv (Ev.lss_i (.t rfl) (.c (v := I 0) rfl)) ?_))))))))
    refine cons (opv (Ev.move (.t rfl)) (cons (opg rfl rfl (Ev.move (.t rfl)) ?_)))
    refine cons (opg rfl rfl (Ev.to (v' := eAddr.val a) (Ev.ldv ty31 (.t rfl) (Lens.id _)) (rfl)) ?_)
    refine cons (callg rfl rfl en64 (.cons (.g rfl id) .nil) (fun hg w I => r15width_ok _ w) ?_)
    refine cons (opg rfl rfl (Ev.gtr_i (.g rfl id) (.g rfl id)) ?_)
    refine cons (opv (Ev.pickO (.t rfl) (.c (v := .bool true) rfl) (fun {_} h => by cases h; rfl) ⟨_, rfl⟩ (by intro h1 h; first | (rw [h] <;> rfl) | (rw [h1, h] <;> rfl) | (rw [h, h1] <;> rfl) | simp_all)) ?_)
    refine nil (pN ?_)
    first | refine condD rfl (fun h1 => ?_) (fun h1 => ?_) | refine cond rfl (fun h1 => ?_) (fun h1 => ?_)
    · refine seq (region (cons (opv (Ev.buildS (fs := _) (places := [(0, 17), (17, 1)]) z36 rfl Try.underlying36 (by kernel_rfl) .nil Fills.nil) ?_)))
      refine cons (stv ty36 (Lens.id _) (.t rfl) (.t rfl) ?_)
      refine cons (opv (Ev.assign (.c (v := I 151) rfl)) ?_)
      refine nil (pN (ret (pR (done rfl (.cell rfl (fun w I => run_loadVar_pts ty36 (ptsVar (by repeat first | exact mH | apply mT | apply mA) (Lens.id _) w I)) (.tmp rfl .nil)) (retE ?_)))))
      have e : ofE a n = 151 := by
        unfold ofE
        rw [if_neg (by rw [hca]; decide), if_pos (by simp only [Bool.or_eq_true, decide_eq_true_eq] at h1; omega)]
      unfold ofV
      rw [e]; rfl
    · have hn : 0 ≤ n ∧ n ≤ wd a := by
        simp only [Bool.or_eq_false_iff, decide_eq_false_iff_not] at h1
        omega
      refine skip (pN (seq (seq (region (cons (opv (Ev.move (.t rfl)) (cons (opv (Ev.assign (.t rfl)) (nil (pN (block (lp (X := Int × SAddr) (fun x : Int × SAddr => (n ≤ x.1 ∧ x.1 ≤ wd a) ∧ (x.2.v6 = a.v6) ∧ (∀ j : Int, 0 ≤ j → j < 128 → bitU x.2.b.toList j = if n ≤ j ∧ j < x.1 then 0 else bitU a.b.toList j)) (fun x : Int × SAddr => [dz, (1, true, I n), (2, true, .pointer (some ⟨b1, 0, none⟩)), (4, true, .pointer (some ⟨b2, 0, none⟩)), (5, true, I 0), (6, true, I x.1)]) (fun x : Int × SAddr => [Var b2 ePrefix ePrefix.zero 36, Var b1 eAddr x.2 31]) (fun x : Int × SAddr => (wd a - x.1).toNat) (n, a) ⟨?_, ?_, ?_⟩ (fun x hx => ?_)))))))))))))
      · omega
      · rfl
      · intro j j0 j1; rw [if_neg (by omega)]
      obtain ⟨i, c⟩ := x
      obtain ⟨hi, hv, hb⟩ : (n ≤ i ∧ i ≤ wd a) ∧ (c.v6 = a.v6) ∧ (∀ j : Int, 0 ≤ j → j < 128 → bitU c.b.toList j = if n ≤ j ∧ j < i then 0 else bitU a.b.toList j) := hx
      show Sat _ _ [dz, (1, true, I n), (2, true, .pointer (some ⟨b1, 0, none⟩)), (4, true, .pointer (some ⟨b2, 0, none⟩)), (5, true, I 0), (6, true, I i)] [Var b2 ePrefix ePrefix.zero 36, Var b1 eAddr c 31]
      refine seq (seq (region (cons (opv (Ev.move (.t rfl)) (cons (opv (Ev.ldv ty31 (.t rfl) (Lens.id _)) ?_))))))
      refine cons (callv en64 (.cons (.t rfl) .nil) (fun w I => wd_to c a hv w) ?_)
      refine cons (opv (Ev.lss_i (.t rfl) (.t rfl)) ?_)
      refine nil (pN ?_)
      first | refine condD rfl (fun h2 => ?_) (fun h2 => ?_) | refine cond rfl (fun h2 => ?_) (fun h2 => ?_)
      · try simp only [Gx.nb] at h2
        refine skip (pN (seq (block (region (cons (opv (Ev.ldv ty31 (.t rfl) (Lens.id _)) ?_))))))
        refine cons (opv (Ev.move (.t rfl)) (cons (callv en75 (.cons (.t rfl) (.cons (.t rfl) (.cons (.c (v := .bool false) rfl) .nil))) (fun w I => with_ok _ _ w (by omega)) ?_)))
        refine cons (stv ty31 (Lens.id _) (.t rfl) (.t rfl) ?_)
        refine nil (bN (pN (region (cons (opv (Ev.move (.t rfl)) (cons (opv (Ev.add_i (.t rfl) (.c (v := I 1) rfl) (fun _ => by omega)) ?_)))))))
        refine cons (opv (Ev.assign (.t rfl)) (nil (pN (nx (X := Int × SAddr) (i + 1, clrA c i) ⟨?_, ?_, ?_⟩ ?_))))
        · try dsimp only
          omega
        · try dsimp only
          rw [clrA_v6]; exact hv
        · try dsimp only
          intro j j0 j1
          rw [clrA_bit c (by omega) (by omega) j0 j1, hb j j0 j1]
          by_cases e : j = i
          · rw [if_pos e, if_pos (by omega)]
          · rw [if_neg e]
            by_cases e2 : n ≤ j ∧ j < i
            · rw [if_pos e2, if_pos (by omega)]
            · rw [if_neg e2, if_neg (by omega)]
        · try dsimp only
          omega
      · try simp only [Gx.nb] at h2
        refine exit (pX (pX (bX (pN (seq (region (cons (opv (Ev.ldv ty31 (.t rfl) (Lens.id _)) ?_))))))))
        refine cons (opv (Ev.move (.t rfl)) (cons (opv (Ev.buildS (fs := _) (places := [(0, 17), (17, 1)]) z36 rfl Try.underlying36 (by kernel_rfl) (.cons (.t rfl) (.cons (.t rfl) .nil)) (Fills.cons SPrefix.l_addr rfl (Fills.cons SPrefix.l_bits rfl Fills.nil))) ?_)))
        refine cons (stv ty36 (Lens.id _) (.t rfl) (.t rfl) ?_)
        refine cons (opv (Ev.assign (.c (v := I 0) rfl)) ?_)
        refine nil (pN (ret (done rfl (.cell rfl (fun w I => run_loadVar_pts ty36 (ptsVar (by repeat first | exact mH | apply mT | apply mA) (Lens.id _) w I)) (.tmp rfl .nil)) (retE ?_))))
        have e : ofE a n = 0 := by
          unfold ofE
          rw [if_neg (by rw [hca]; decide), if_neg (by omega)]
        have eb : c.b = maskV n a.b := bits_ext _ _ (fun j j0 j1 => by
          rw [hb j j0 j1, mask_bit n a.b j j0 j1]
          by_cases e3 : j < n
          · rw [if_pos e3, if_neg (by omega)]
          · rw [if_neg e3]
            by_cases e4 : j < i
            · rw [if_pos (by omega)]
            · rw [if_neg (by omega)]
              exact (checkA_zero a).1 hca j (by omega) j1)
        have ec : c = ⟨a.v6, maskV n a.b⟩ := by
          cases c
          simp only at hv eb
          rw [hv, eb]
        unfold ofV
        rw [e, if_pos rfl, ← ec]; rfl
end Go.Proofs.Ytjjlofjpdklbgaa
