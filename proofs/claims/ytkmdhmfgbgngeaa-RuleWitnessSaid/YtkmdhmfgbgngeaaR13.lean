/- rule -/
import Derived.Test.YtkmdhmfgbgngeaaR12
set_option linter.unusedVariables false
set_option linter.unusedSimpArgs false
namespace Go.Proofs.Ytkmdhmfgbgngeaa
open Go Go.Gx

theorem en20 : Enters Try.prog 20 := Enters.mk' (by kernel_rfl)

theorem en24 : Enters Try.prog 24 := Enters.mk' (by kernel_rfl)

theorem RuleMany_walk (m : SMatch) (n0 : Int) (w : World) (hn0 : Fit n0) : Calls Try.prog 6 #[eMatch.val m, I n0] w (RetV w (.bool true)) := by
  refine enter0 53 Try.func6 rfl rfl (Nat.le_of_ble_eq_true rfl) ?_
  refine seq ?_
  refine region ?_
  refine cons (box (E := eMatch) (.t rfl) (fun b1 => ?_))
  refine cons (opv (Ev.assign (.c (v := .bool false) rfl)) ?_)
  refine nil ?_
  refine pN ?_
  refine seq ?_
  refine region ?_
  have ht1 : -300 < n0.tmod 300 ∧ n0.tmod 300 < 300 := ⟨by have := Int.lt_tmod_of_pos n0 (show (0 : Int) < 300 by decide); omega, Int.tmod_lt_of_pos n0 (by decide)⟩
  obtain ⟨k, hk⟩ : ∃ k : Nat, (n0.tmod 300 + 300) % 300 = (k : Int) := ⟨((n0.tmod 300 + 300) % 300).toNat, by omega⟩
  have hk3 : k < 300 := by omega
  refine cons (opv (Ev.move (.t rfl)) ?_)
  refine cons (opv (Ev.rem_i (.t rfl) (.c (v := I 300) rfl) (fun _ => by omega)) ?_)
  refine cons (opv (Ev.add_i (.t rfl) (.c (v := I 300) rfl) (fun _ => by omega)) ?_)
  refine cons (opv (Ev.to (v' := I ((k : Nat) : Int)) (Ev.rem_n (.t rfl) (.c (v := I 300) rfl) (fun _ => by omega) (fun _ => by omega)) (by rw [hk])) ?_)
  refine cons (opv (Ev.assign (.t rfl)) ?_)
  refine nil ?_
  refine pN ?_
  refine seq ?_
  refine region ?_
  refine cons (opv (Ev.assign (.c (v := (Go.Value.slice none 0 0)) rfl)) ?_)
  refine takeNil eMatch 31 ?_
  refine nil ?_
  refine pN ?_
  refine seq ?_
  refine seq ?_
  refine region ?_
  refine cons (opv (Ev.assign (.c (v := I 0) rfl)) ?_)
  refine nil ?_
  refine pN ?_
  refine block ?_
  refine loop (X := Int × OV) (fun x : Int × OV => (0 ≤ x.1 ∧ x.1 ≤ k)) (fun x : Int × OV => [(1, true, I ((k : Nat) : Int)), (2, true, .pointer (some ⟨b1, 0, none⟩)), (5, true, x.2.v), (6, true, I x.1)]) (fun x : Int × OV => [OwnS x.2.v eMatch (List.replicate x.1.toNat m) 31, Var b1 eMatch m 31]) (fun x : Int × OV => (k - x.1).toNat) (0, nilSl) ?_ (by repeat first | exact Sub.nil | refine Sub.cons rfl ?_) (by repeat first | exact sR | exact sN | apply sC | apply sS | apply sA) (fun x hx => ?_)
  · omega
  obtain ⟨i, o⟩ := x
  have hi : 0 ≤ i ∧ i ≤ k := hx
  clear hx
  show Sat _ _ [(1, true, I ((k : Nat) : Int)), (2, true, .pointer (some ⟨b1, 0, none⟩)), (5, true, o.v), (6, true, I i)] [OwnS o.v eMatch (List.replicate i.toNat m) 31, Var b1 eMatch m 31]
  refine seq ?_
  refine seq ?_
  refine region ?_
  refine cons (opv (Ev.move (.t rfl)) ?_)
  refine cons (opv (Ev.move (.t rfl)) ?_)
  refine cons (opv (Ev.lss_i (.t rfl) (.t rfl)) ?_)
  refine nil ?_
  refine pN ?_
  first | refine condD rfl (fun h0 => ?_) (fun h0 => ?_) | refine cond rfl (fun h0 => ?_) (fun h0 => ?_)
  · try simp only [Bool.and_eq_true, Bool.or_eq_true, Bool.or_eq_false_iff, Bool.and_eq_false_iff, Bool.not_eq_true', Bool.not_eq_false', decide_eq_true_eq, decide_eq_false_iff_not, Decidable.not_not] at h0
    refine skip ?_
    refine pN ?_
    refine seq ?_
    refine block ?_
    refine region ?_
    refine cons (opv (Ev.move (.t rfl)) ?_)
    refine cons (opv (Ev.load (xv := m) ty31 (.t rfl) (ptsVar (by repeat first | exact mH | apply mT | apply mA) (Lens.id _))) ?_)
    refine cons (buildSlice (E := eMatch) Try.underlying41 ty31 z31 (.cons (.t rfl) .nil) rfl rfl (fun v2 => ?_))
    refine cons (append (E := eMatch) Try.underlying41 ty31 rfl zb31 zs31 (.t rfl) (.t rfl) (fun _ => by repeat first | exact Upd.head | apply Upd.tail | apply Upd.right) (by first | exact isSl_own (by repeat first | exact mH | apply mT | apply mA) | exact fun w I => IsSl.keep0 (by assumption) I.keeps) (⟨by (show _ ≤ 9223372036854775807); first | omega | (simp; done) | (simp; omega), by first | omega | (simp; done) | (simp; omega)⟩) (fun v3 => ?_))
    refine cons (opv (Ev.assign (.t rfl)) ?_)
    refine nil ?_
    refine bN ?_
    refine pN ?_
    refine region ?_
    refine cons (opv (Ev.move (.t rfl)) ?_)
    refine cons (opv (Ev.add_i (.t rfl) (.c (v := I 1) rfl) (fun _ => by omega)) ?_)
    refine cons (opv (Ev.assign (.t rfl)) ?_)
    refine nil ?_
    refine pN ?_
    refine next (X := Int × OV) (i + 1, _) ?_ ?_ (by repeat first | exact Sub.nil | refine Sub.cons rfl ?_) (by dsimp only; rw [show (i + 1).toNat = i.toNat + 1 from by omega, List.replicate_succ']; repeat first | exact List.Sublist.refl _ | apply List.Sublist.cons_cons | apply List.Sublist.cons)
    · try dsimp only
      omega
    · try dsimp only
      omega
  · try simp only [Bool.and_eq_true, Bool.or_eq_true, Bool.or_eq_false_iff, Bool.and_eq_false_iff, Bool.not_eq_true', Bool.not_eq_false', decide_eq_true_eq, decide_eq_false_iff_not, Decidable.not_not] at h0
    refine exit ?_
    refine pX ?_
    refine pX ?_
    refine bX ?_
    refine pN ?_
    refine seq ?_
    refine region ?_
    refine cons (opv (Ev.move (.t rfl)) ?_)
    refine cons (calln (X := Nat × List Res) (CompJ (List.replicate i.toNat m)) (compV (List.replicate i.toNat m)) (fun x => x.2) en16 (.cons (.t rfl) .nil) (fun w I => compile_ok _ (List.replicate i.toNat m) w (isSl_own (by repeat first | exact mH | apply mT | apply mA) w I)) (fun x1 hx1 => ?_))
    refine cons (opv (Ev.move (.t rfl)) ?_)
    refine cons (opv (Ev.to (v' := .pointer (ptrO (List.replicate i.toNat m) x1.1)) (Ev.extract (.t rfl) rfl) (rfl)) ?_)
    refine cons (opv (Ev.extract (.t rfl) rfl) ?_)
    refine cons (opv (Ev.assign (.t rfl)) ?_)
    refine cons (opv (Ev.assign (.t rfl)) ?_)
    refine nil ?_
    refine pN ?_
    refine seq ?_
    refine seq ?_
    refine region ?_
    refine cons (opv (Ev.move (.t rfl)) ?_)
    refine cons (opv (Ev.move (.t rfl)) ?_)
    refine cons (callv en20 (.cons (.t rfl) .nil) (fun w I => rcompile_ok _ (List.replicate i.toNat m) w (isSl_own (by repeat first | exact mH | apply mT | apply mA) w I)) ?_)
    refine cons (opv (Ev.to (v' := .bool false) (Ev.neq_i (.t rfl) (.t rfl)) (congrArg Value.bool (by simp))) ?_)
    refine cons (opv (Ev.to (v' := .bool false) (Ev.move (.t rfl)) (rfl)) ?_)
    refine cons (opg rfl rfl (Ev.move (.t rfl)) ?_)
    refine cons (opg rfl rfl (Ev.eql_p Try.underlying43 (.g rfl id) (.c rfl)) ?_)
    refine cons (opg rfl rfl (Ev.move (.t rfl)) ?_)
    refine cons (opg rfl rfl (Ev.neq_i (.g rfl id) (.c (v := I 0) rfl)) ?_)
    refine cons (opg rfl rfl (Ev.to (v' := .bool false) (Ev.neq_b Try.underlying4 (.g rfl id) (.g rfl id)) (congrArg Value.bool (by rw [ptrO_nil]; simp))) ?_)
    refine cons (opv (Ev.pickO (.t rfl) (.c (v := .bool true) rfl) (fun {_} h => by cases h; rfl) ⟨_, rfl⟩ (by intro h1 h; first | (rw [h] <;> rfl) | (rw [h1, h] <;> rfl) | (rw [h, h1] <;> rfl) | simp_all)) ?_)
    refine nil ?_
    refine pN ?_
    refine condF rfl (rfl) ?_
    refine skip ?_
    refine pN ?_
    refine seq ?_
    refine seq ?_
    refine region ?_
    refine cons (opv (Ev.move (.t rfl)) ?_)
    refine cons (opv (Ev.eql_p Try.underlying43 (.t rfl) (.c rfl)) ?_)
    refine nil ?_
    refine pN ?_
    first | refine condD rfl (fun h2 => ?_) (fun h2 => ?_) | refine cond rfl (fun h2 => ?_) (fun h2 => ?_)
    · have hc : ¬ compE (List.replicate i.toNat m) = 0 := by rw [ptrO_nil] at h2; simpa using h2
      refine seq ?_
      refine region ?_
      refine cons (opv (Ev.move (.t rfl)) ?_)
      refine cons (callv en24 (.cons (.t rfl) .nil) (fun w I => (by have h := len0_ok w; rw [← ptrO_no x1.1 hc] at h; exact h)) ?_)
      refine cons (opv (Ev.eql_i (.t rfl) (.c (v := I 0) rfl)) ?_)
      refine cons (opv (Ev.move (.t rfl)) ?_)
      refine cons (callg rfl rfl en15 .nil (fun hg w I => works_ok w) ?_)
      refine cons (opv (Ev.pickA (.t rfl) (fun {_} h => by cases h; rfl) ⟨_, rfl⟩ (by intro h1 h; first | (rw [h] <;> rfl) | (rw [h1, h] <;> rfl) | (rw [h, h1] <;> rfl) | simp_all) (.c (v := .bool false) rfl)) ?_)
      refine cons (opv (Ev.assign (.t rfl)) ?_)
      refine nil ?_
      refine pN ?_
      refine ret ?_
      refine pR ?_
      refine done rfl (.tmp rfl .nil) (retE ?_)
      rfl
    · have hc : compE (List.replicate i.toNat m) = 0 := by rw [ptrO_nil] at h2; simpa using h2
      refine skip ?_
      refine pN ?_
      refine seq ?_
      refine region ?_
      refine cons (opv (Ev.move (.t rfl)) ?_)
      refine cons (callv en24 (.cons (.t rfl) .nil) (fun w I => (by have h := len_ok x1.1 (List.replicate i.toNat m) w (hx1 hc w (fun r hr => (I.own r (by repeat first | exact List.mem_append_left _ hr | apply List.Mem.tail)).1)); rw [← ptrO_ok x1.1 hc] at h; exact h)) ?_)
      refine cons (opv (Ev.move (.t rfl)) ?_)
      refine cons (opv (Ev.eql_i (.t rfl) (.t rfl)) ?_)
      refine cons (opv (Ev.move (.t rfl)) ?_)
      refine cons (callg rfl rfl en15 .nil (fun hg w I => works_ok w) ?_)
      refine cons (opv (Ev.pickA (.t rfl) (fun {_} h => by cases h; rfl) ⟨_, rfl⟩ (by intro h1 h; first | (rw [h] <;> rfl) | (rw [h1, h] <;> rfl) | (rw [h, h1] <;> rfl) | simp_all) (.c (v := .bool false) rfl)) ?_)
      refine cons (opv (Ev.assign (.t rfl)) ?_)
      refine nil ?_
      refine pN ?_
      refine ret ?_
      refine done rfl (.tmp rfl .nil) (retE ?_)
      have e : i = k := by omega
      subst e
      refine congrArg Value.bool ?_
      simp
end Go.Proofs.Ytkmdhmfgbgngeaa
