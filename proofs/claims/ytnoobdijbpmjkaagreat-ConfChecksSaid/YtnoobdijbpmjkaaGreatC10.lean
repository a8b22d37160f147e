/- conf -/
import Derived.Test.YtnoobdijbpmjkaaGreatC9
import Derived.Test.YtnoobdijbpmjkaaGreatGxU
set_option linter.unusedVariables false
set_option linter.unusedSimpArgs false
namespace Go.Proofs.YtnoobdijbpmjkaaGreat
open Go Go.Gx

/-- May a byte stand in a name at a place? -/
def nameC (c i : Int) : Bool := (decide (97 ≤ c) && decide (c ≤ 122)) || (decide (0 < i) && ((decide (48 ≤ c) && decide (c ≤ 57)) || decide (c = 45) || decide (c = 95)))
/-- May it be a name? -/
def nameB (s : ByteArray) : Bool := !(decide (s.size = 0) || decide (16 < s.size)) && (List.range s.size).all (fun k => nameC (s.get! k).toNat k)
theorem nameC_high {c i : Int} (h : 128 ≤ c) : nameC c i = false := by
  unfold nameC
  have h1 : decide (c ≤ 122) = false := by simp; omega
  have h2 : decide (c ≤ 57) = false := by simp; omega
  have h3 : decide (c = 45) = false := by simp; omega
  have h4 : decide (c = 95) = false := by simp; omega
  rw [h1, h2, h3, h4]
  simp
theorem name_step {s : ByteArray} {i : Nat} (hc : nameC (Utf8.decode s i).1 i = true) : (Utf8.decode s i).2 = 1 ∧ nameC (s.get! i).toNat i = true := by
  have hlt : (s.get! i).toNat < 128 := Nat.lt_of_not_le fun h => by
    have := Gx.decode_high s i h
    rw [nameC_high (by omega)] at hc
    cases hc
  have e : Utf8.decode s i = ((s.get! i).toNat, 1) := by
    unfold Utf8.decode
    simp only [Nat.add_zero]
    rw [if_pos hlt]
  rw [e] at hc ⊢
  exact ⟨rfl, hc⟩
theorem name_bad {s : ByteArray} {i : Nat} (hc : nameC (Utf8.decode s i).1 i = false) : nameC (s.get! i).toNat i = false := by
  by_cases hlt : (s.get! i).toNat < 128
  · have e : Utf8.decode s i = ((s.get! i).toNat, 1) := by
      unfold Utf8.decode
      simp only [Nat.add_zero]
      rw [if_pos hlt]
    rw [e] at hc
    exact hc
  · exact nameC_high (by omega)

theorem name_ok (s : ByteArray) (w : World) (hs : s.size ≤ 9223372036854775807) : Calls Tryz.prog 116 #[.string s] w (RetV w (.bool (nameB s))) := by
  refine enter0 45 Tryz.func116 rfl rfl (Nat.le_of_ble_eq_true rfl) ?_
  refine seq (region (cons (opv (Ev.assign (.c (v := .bool false) rfl)) ?_)))
  refine nil (pN (seq (seq (region (cons (opv (Ev.move (.t rfl)) (cons (opv (Ev.lenS Tryz.underlying9 (.t rfl)) ?_))))))))
  refine cons (opv (Ev.eql_i (.t rfl) (.c (v := I 0) rfl)) ?_)
  refine cons (opv (Ev.move (.t rfl)) (cons (opg rfl rfl (Ev.move (.t rfl)) ?_)))
  refine cons (opg rfl rfl (Ev.lenS Tryz.underlying9 (.g rfl id)) ?_)
  refine cons (opg rfl rfl (Ev.gtr_i (.g rfl id) (.c (v := I 16) rfl)) ?_)
  refine cons (opv (Ev.pickO (.t rfl) (.c (v := .bool true) rfl) (fun {_} h => by cases h; rfl) ⟨_, rfl⟩ (by intro h1 h; first | (rw [h] <;> rfl) | (rw [h1, h] <;> rfl) | (rw [h, h1] <;> rfl) | simp_all)) ?_)
  refine nil (pN ?_)
  first | refine condD rfl (fun h0 => ?_) (fun h0 => ?_) | refine cond rfl (fun h0 => ?_) (fun h0 => ?_)
  · try simp only [nb] at h0
    refine seq (region (cons (opv (Ev.assign (.c (v := .bool false) rfl)) ?_)))
    refine nil (pN (ret (pR (done rfl (.tmp rfl .nil) (retE ?_)))))
    have e : nameB s = false := by
      have h : (decide (s.size = 0) || decide (16 < s.size)) = true := by rw [Bool.or_eq_true, decide_eq_true_eq, decide_eq_true_eq]; omega
      unfold nameB
      rw [h]
      rfl
    rw [e]; rfl
  · try simp only [nb] at h0
    refine skip (pN (seq (seq (region (cons (opv (Ev.move (.t rfl)) (cons (startRangeS Tryz.underlying9 (.t rfl) (fun r1 => ?_)))))))))
    refine nil (pN (block (loop (X := Nat) (fun x : Nat => (x ≤ s.size) ∧ (∀ k : Nat, k < x → nameC (s.get! k).toNat k = true)) (fun x : Nat => [(14, true, .pointer (some ⟨r1, 0, none⟩))]) (fun x : Nat => [StrIt r1 s x]) (fun x : Nat => s.size - x) (0) ⟨?_, ?_⟩ (by repeat first | exact Sub.nil | refine Sub.cons rfl ?_) (by repeat first | exact sR | exact sN | apply sC | apply sS | apply sA) (fun x hx => ?_))))
    · omega
    · intro k h; omega
    obtain ⟨i, rfl⟩ : ∃ y, y = x := ⟨x, rfl⟩
    obtain ⟨hi, hq⟩ : (i ≤ s.size) ∧ (∀ k : Nat, k < i → nameC (s.get! k).toNat k = true) := hx
    show Sat _ _ [(14, true, .pointer (some ⟨r1, 0, none⟩))] [StrIt r1 s i]
    refine seq (region (cons (nextStr (.t rfl) (fun _ => by repeat first | exact Upd.head | apply Upd.tail | apply Upd.right) (fun hs5 => ?_) (fun hs5 => ?_))))
    · refine cons (opv (Ev.extract (.t rfl) rfl) (nil (pN (seq (condF rfl (rfl) ?_)))))
      refine exit (pX (pX (bX (pN (seq (region (cons (opv (Ev.assign (.c (v := .bool true) rfl)) ?_))))))))
      refine nil (pN (ret (done rfl (.tmp rfl .nil) (retE ?_))))
      have e : nameB s = true := by
        have h : (decide (s.size = 0) || decide (16 < s.size)) = false := by rw [Bool.or_eq_false_iff, decide_eq_false_iff_not, decide_eq_false_iff_not]; omega
        unfold nameB
        rw [h]
        exact List.all_eq_true.2 fun k hk => hq k (by have := List.mem_range.1 hk; omega)
      rw [e]; rfl
    · refine cons (opv (Ev.extract (.t rfl) rfl) (nil (pN (seq (condT rfl (rfl) ?_)))))
      refine skip (pN (block (seq (region (cons (opv (Ev.extract (.t rfl) rfl) (cons (opv (Ev.extract (.t rfl) rfl) (cons (opv (Ev.assign (.t rfl)) (cons (opv (Ev.assign (.t rfl)) (nil (pN (block (seq (region (cons (opv (Ev.move (.t rfl)) (cons (opv (Ev.geq_i32 (.t rfl) (.c (v := Value.int .i32 97) rfl)) ?_)))))))))))))))))))))
      refine cons (opv (Ev.move (.t rfl)) (cons (opg rfl rfl (Ev.move (.t rfl)) ?_)))
      refine cons (opg rfl rfl (Ev.leq_i32 (.g rfl id) (.c (v := Value.int .i32 122) rfl)) ?_)
      refine cons (opv (Ev.pickA (.t rfl) (fun {_} h => by cases h; rfl) ⟨_, rfl⟩ (by intro h1 h; first | (rw [h] <;> rfl) | (rw [h1, h] <;> rfl) | (rw [h, h1] <;> rfl) | simp_all) (.c (v := .bool false) rfl)) ?_)
      refine cons (opv (Ev.assign (.t rfl)) (nil (pN ?_)))
      first | refine condD rfl (fun h2 => ?_) (fun h2 => ?_) | refine cond rfl (fun h2 => ?_) (fun h2 => ?_)
      · refine skip (bN (bN (pN (next (X := Nat) (_) ⟨?_, ?_⟩ ?_ (by repeat first | exact Sub.nil | refine Sub.cons rfl ?_) (by repeat first | exact sR | exact sN | apply sC | apply sS | apply sA)))))
        · try dsimp only
          have hc : nameC (Utf8.decode s i).1 i = true := by
            unfold nameC
            first
              | (rw [h2]; rfl)
              | (rw [h3]; simp)
          have hst := name_step hc
          have hst1 := hst.1
          omega
        · try dsimp only
          have hc : nameC (Utf8.decode s i).1 i = true := by
            unfold nameC
            first
              | (rw [h2]; rfl)
              | (rw [h3]; simp)
          have hst := name_step hc
          have hst1 := hst.1
          intro k hk
          by_cases e : k < i
          · exact hq k e
          · obtain rfl : k = i := by omega
            exact hst.2
        · try dsimp only
          have hc : nameC (Utf8.decode s i).1 i = true := by
            unfold nameC
            first
              | (rw [h2]; rfl)
              | (rw [h3]; simp)
          have hst := name_step hc
          have hst1 := hst.1
          omega
      · refine seq (region (cons (opv (Ev.move (.t rfl)) (cons (opv (Ev.gtr_i (.t rfl) (.c (v := I 0) rfl)) ?_)))))
        refine cons (opv (Ev.move (.t rfl)) (cons (opg rfl rfl (Ev.move (.t rfl)) ?_)))
        refine cons (opg rfl rfl (Ev.geq_i32 (.g rfl id) (.c (v := Value.int .i32 48) rfl)) ?_)
        refine cons (opg rfl rfl (Ev.move (.g rfl id)) ?_)
        refine cons (opg rfl rfl (Ev.move (.t rfl)) ?_)
        refine cons (opg rfl rfl (Ev.leq_i32 (.g rfl id) (.c (v := Value.int .i32 57) rfl)) ?_)
        refine cons (opg rfl rfl (Ev.pickA (.g rfl id) (fun {_} h => by cases h; rfl) ⟨_, rfl⟩ (by intro h1 h; first | (rw [h] <;> rfl) | (rw [h1, h] <;> rfl) | (rw [h, h1] <;> rfl) | simp_all) (.c (v := .bool false) rfl)) ?_)
        refine cons (opg rfl rfl (Ev.move (.g rfl id)) ?_)
        refine cons (opg rfl rfl (Ev.move (.t rfl)) ?_)
        refine cons (opg rfl rfl (Ev.eql_i32 (.g rfl id) (.c (v := Value.int .i32 45) rfl)) ?_)
        refine cons (opg rfl rfl (Ev.pickO (.g rfl id) (.c (v := .bool true) rfl) (fun {_} h => by cases h; rfl) ⟨_, rfl⟩ (by intro h1 h; first | (rw [h] <;> rfl) | (rw [h1, h] <;> rfl) | (rw [h, h1] <;> rfl) | simp_all)) ?_)
        refine cons (opg rfl rfl (Ev.move (.g rfl id)) ?_)
        refine cons (opg rfl rfl (Ev.move (.t rfl)) ?_)
        refine cons (opg rfl rfl (Ev.eql_i32 (.g rfl id) (.c (v := Value.int .i32 95) rfl)) ?_)
        refine cons (opg rfl rfl (Ev.pickO (.g rfl id) (.c (v := .bool true) rfl) (fun {_} h => by cases h; rfl) ⟨_, rfl⟩ (by intro h1 h; first | (rw [h] <;> rfl) | (rw [h1, h] <;> rfl) | (rw [h, h1] <;> rfl) | simp_all)) ?_)
        refine cons (opv (Ev.pickA (.t rfl) (fun {_} h => by cases h; rfl) ⟨_, rfl⟩ (by intro h1 h; first | (rw [h] <;> rfl) | (rw [h1, h] <;> rfl) | (rw [h, h1] <;> rfl) | simp_all) (.c (v := .bool false) rfl)) ?_)
        refine cons (opv (Ev.assign (.t rfl)) (nil (pN ?_)))
        first | refine condD rfl (fun h3 => ?_) (fun h3 => ?_) | refine cond rfl (fun h3 => ?_) (fun h3 => ?_)
        · refine skip (bN (bN (pN (next (X := Nat) (_) ⟨?_, ?_⟩ ?_ (by repeat first | exact Sub.nil | refine Sub.cons rfl ?_) (by repeat first | exact sR | exact sN | apply sC | apply sS | apply sA)))))
          · try dsimp only
            have hc : nameC (Utf8.decode s i).1 i = true := by
              unfold nameC
              first
                | (rw [h2]; rfl)
                | (rw [h3]; simp)
            have hst := name_step hc
            have hst1 := hst.1
            omega
          · try dsimp only
            have hc : nameC (Utf8.decode s i).1 i = true := by
              unfold nameC
              first
                | (rw [h2]; rfl)
                | (rw [h3]; simp)
            have hst := name_step hc
            have hst1 := hst.1
            intro k hk
            by_cases e : k < i
            · exact hq k e
            · obtain rfl : k = i := by omega
              exact hst.2
          · try dsimp only
            have hc : nameC (Utf8.decode s i).1 i = true := by
              unfold nameC
              first
                | (rw [h2]; rfl)
                | (rw [h3]; simp)
            have hst := name_step hc
            have hst1 := hst.1
            omega
        · refine seq (region (cons (opv (Ev.assign (.c (v := .bool false) rfl)) ?_)))
          refine nil (pN (ret (bR (bR (pR (bR (pR (done rfl (.tmp rfl .nil) (retE ?_)))))))))
          have hb : nameC (s.get! i).toNat i = false := name_bad (by unfold nameC; rw [h2, h3]; rfl)
          have e : nameB s = false := by
            unfold nameB
            have : (List.range s.size).all (fun k => nameC (s.get! k).toNat k) = false := List.all_eq_false.2 ⟨i, List.mem_range.2 (by assumption), by simp [hb]⟩
            rw [this, Bool.and_false]
          rw [e]; rfl
end Go.Proofs.YtnoobdijbpmjkaaGreat
