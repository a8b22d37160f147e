/- rule -/
import Derived.Test.YtkmdhmfgbgngeaaR11
set_option linter.unusedVariables false
set_option linter.unusedSimpArgs false
namespace Go.Proofs.Ytkmdhmfgbgngeaa
open Go Go.Gx

theorem rcompile_ok (u : Value) (l : List SMatch) (w : World) (hl : IsSl eMatch w u l) : Calls Try.prog 20 #[u] w (RetV w (I (compE l))) := by
  have hle := hl.le
  refine enter0 19 Try.func20 rfl rfl (Nat.le_of_ble_eq_true rfl) ?_
  refine seq ?_
  refine region ?_
  refine cons (opv (Ev.assign (.c (v := I 0) rfl)) ?_)
  refine nil ?_
  refine pN ?_
  refine seq ?_
  refine seq ?_
  refine region ?_
  refine cons (opv (Ev.move (.t rfl)) ?_)
  refine cons (opv (Ev.len Try.underlying41 (.t rfl) (by first | exact isSl_own (by repeat first | exact mH | apply mT | apply mA) | exact fun w I => IsSl.keep0 (by assumption) I.keeps)) ?_)
  refine cons (opv (Ev.gtr_i (.t rfl) (.c (v := I 256) rfl)) ?_)
  refine nil ?_
  refine pN ?_
  first | refine condD rfl (fun hbig => ?_) (fun hsmall => ?_) | refine cond rfl (fun hbig => ?_) (fun hsmall => ?_)
  · try simp only [Bool.and_eq_true, Bool.or_eq_true, Bool.or_eq_false_iff, Bool.and_eq_false_iff, Bool.not_eq_true', Bool.not_eq_false', decide_eq_true_eq, decide_eq_false_iff_not, Decidable.not_not] at hbig
    refine seq ?_
    refine region ?_
    refine cons (opv (Ev.assign (.c (v := I 4) rfl)) ?_)
    refine nil ?_
    refine pN ?_
    refine ret ?_
    refine pR ?_
    refine done rfl (.tmp rfl .nil) (retE ?_)
    unfold compE; rw [decide_eq_true (by omega)]; rfl
  · try simp only [Bool.and_eq_true, Bool.or_eq_true, Bool.or_eq_false_iff, Bool.and_eq_false_iff, Bool.not_eq_true', Bool.not_eq_false', decide_eq_true_eq, decide_eq_false_iff_not, Decidable.not_not] at hsmall
    refine skip ?_
    refine pN ?_
    refine seq ?_
    refine seq ?_
    refine region ?_
    refine cons (opv (Ev.assign (.c (v := I 0) rfl)) ?_)
    refine nil ?_
    refine pN ?_
    refine block ?_
    refine loop (X := Int) (fun x : Int => (0 ≤ x ∧ x ≤ l.length) ∧ ((l.take x.toNat).all okM = true)) (fun x : Int => [(0, true, u), (3, true, I x)]) (fun x : Int => []) (fun x : Int => (l.length - x).toNat) (0) ⟨?_, ?_⟩ (by repeat first | exact Sub.nil | refine Sub.cons rfl ?_) (by repeat first | exact sR | exact sN | apply sC | apply sS | apply sA) (fun x hx => ?_)
    · omega
    · rfl
    obtain ⟨i, rfl⟩ : ∃ y, y = x := ⟨x, rfl⟩
    obtain ⟨hi, hok⟩ : (0 ≤ i ∧ i ≤ l.length) ∧ ((l.take i.toNat).all okM = true) := hx
    show Sat _ _ [(0, true, u), (3, true, I i)] []
    refine seq ?_
    refine seq ?_
    refine region ?_
    refine cons (opv (Ev.move (.t rfl)) ?_)
    refine cons (opv (Ev.move (.t rfl)) ?_)
    refine cons (opv (Ev.len Try.underlying41 (.t rfl) (by first | exact isSl_own (by repeat first | exact mH | apply mT | apply mA) | exact fun w I => IsSl.keep0 (by assumption) I.keeps)) ?_)
    refine cons (opv (Ev.lss_i (.t rfl) (.t rfl)) ?_)
    refine nil ?_
    refine pN ?_
    first | refine condD rfl (fun hlt => ?_) (fun hge => ?_) | refine cond rfl (fun hlt => ?_) (fun hge => ?_)
    · try simp only [Bool.and_eq_true, Bool.or_eq_true, Bool.or_eq_false_iff, Bool.and_eq_false_iff, Bool.not_eq_true', Bool.not_eq_false', decide_eq_true_eq, decide_eq_false_iff_not, Decidable.not_not] at hlt
      refine skip ?_
      refine pN ?_
      refine seq ?_
      refine block ?_
      refine seq ?_
      refine region ?_
      refine cons (opv (Ev.move (.t rfl)) ?_)
      refine cons (opv (Ev.move (.t rfl)) ?_)
      refine cons (opv (Ev.indexAddr Try.underlying41 ty31 (.t rfl) (.t rfl) (by first | exact isSl_own (by repeat first | exact mH | apply mT | apply mA) | exact fun w I => IsSl.keep0 (by assumption) I.keeps) (fun _ => by omega)) ?_)
      refine cons (opv (Ev.loadS0 ty31 (.t rfl) (by first | exact isSl_own (by repeat first | exact mH | apply mT | apply mA) | exact fun w I => IsSl.keep0 (by assumption) I.keeps) (fun _ => by omega)) ?_)
      refine cons (callv en11 (.cons (.t rfl) .nil) (fun w I => rcheck_ok _ w) ?_)
      refine cons (opv (Ev.not (.t rfl)) ?_)
      refine nil ?_
      refine pN ?_
      first | refine condD rfl (fun h2 => ?_) (fun h2 => ?_) | refine cond rfl (fun h2 => ?_) (fun h2 => ?_)
      · refine seq ?_
        refine region ?_
        refine cons (opv (Ev.assign (.c (v := I 190) rfl)) ?_)
        refine nil ?_
        refine pN ?_
        refine ret ?_
        refine bR ?_
        refine pR ?_
        refine pR ?_
        refine bR ?_
        refine pR ?_
        refine done rfl (.tmp rfl .nil) (retE ?_)
        have hbad : okM (l.getD i.toNat eMatch.zero) = false := by simpa using h2
        unfold compE; rw [decide_eq_false (by omega), not_all l i.toNat (by omega) hbad]; rfl
      · refine skip ?_
        refine bN ?_
        refine pN ?_
        refine region ?_
        refine cons (opv (Ev.move (.t rfl)) ?_)
        refine cons (opv (Ev.add_i (.t rfl) (.c (v := I 1) rfl) (fun _ => by omega)) ?_)
        refine cons (opv (Ev.assign (.t rfl)) ?_)
        refine nil ?_
        refine pN ?_
        refine next (X := Int) (i + 1) ⟨?_, ?_⟩ ?_ (by repeat first | exact Sub.nil | refine Sub.cons rfl ?_) (by repeat first | exact sR | exact sN | apply sC | apply sS | apply sA)
        · try dsimp only
          omega
        · try dsimp only
          exact all_snoc l i hi.1 (by omega) hok (by simpa using h2)
        · try dsimp only
          omega
    · try simp only [Bool.and_eq_true, Bool.or_eq_true, Bool.or_eq_false_iff, Bool.and_eq_false_iff, Bool.not_eq_true', Bool.not_eq_false', decide_eq_true_eq, decide_eq_false_iff_not, Decidable.not_not] at hge
      refine exit ?_
      refine pX ?_
      refine pX ?_
      refine bX ?_
      refine pN ?_
      refine seq ?_
      refine region ?_
      refine cons (opv (Ev.assign (.c (v := I 0) rfl)) ?_)
      refine nil ?_
      refine pN ?_
      refine ret ?_
      refine done rfl (.tmp rfl .nil) (retE ?_)
      rw [List.take_of_length_le (by omega)] at hok
      unfold compE; rw [decide_eq_false (by omega), hok]; rfl

theorem en13 : Enters Try.prog 13 := Enters.mk' (by kernel_rfl)

theorem en14 : Enters Try.prog 14 := Enters.mk' (by kernel_rfl)

theorem en15 : Enters Try.prog 15 := Enters.mk' (by kernel_rfl)

theorem RuleChecks_walk (m : SMatch) (n : Int) (h : SHeader) (w : World) : Calls Try.prog 3 #[eMatch.val m, I n, eHeader.val h] w (RetV w (.bool true)) := by
  refine enter0 29 Try.func3 rfl rfl (Nat.le_of_ble_eq_true rfl) ?_
  refine seq ?_
  refine region ?_
  refine cons (box (E := eMatch) (.t rfl) (fun b1 => ?_))
  refine cons (box (E := eHeader) (.t rfl) (fun b2 => ?_))
  refine cons (opv (Ev.assign (.c (v := .bool false) rfl)) ?_)
  refine nil ?_
  refine pN ?_
  refine seq ?_
  refine region ?_
  refine cons (opv (Ev.assign (.c (v := I 0) rfl)) ?_)
  refine nil ?_
  refine pN ?_
  refine seq ?_
  refine seq ?_
  refine region ?_
  refine cons (opv (Ev.load (xv := m) ty31 (.t rfl) (ptsVar (by repeat first | exact mH | apply mT | apply mA) (Lens.id _))) ?_)
  refine cons (callv en11 (.cons (.t rfl) .nil) (fun w I => rcheck_ok _ w) ?_)
  refine cons (opv (Ev.not (.t rfl)) ?_)
  refine nil ?_
  refine pN ?_
  first | refine condD rfl (fun h0 => ?_) (fun h0 => ?_) | refine cond rfl (fun h0 => ?_) (fun h0 => ?_)
  · refine region ?_
    refine cons (opv (Ev.assign (.c (v := I 190) rfl)) ?_)
    refine nil ?_
    refine pN ?_
    refine seq ?_
    refine draw' (by kernel_rfl) ?_
    refine take 0 rfl (by kernel_rfl) (by kernel_rfl) (by kernel_rfl) (by repeat first | exact sR | exact sN | apply sC | apply sS | apply sA) (Ev.load (xv := m) ty31 (.t rfl) (ptsVar (by repeat first | exact mH | apply mT | apply mA) (Lens.id _))) ?_
    refine take 2 rfl (by kernel_rfl) (by kernel_rfl) (by kernel_rfl) (by repeat first | exact sR | exact sN | apply sC | apply sS | apply sA) (Ev.move (.t rfl)) ?_
    refine all [1] (by kernel_rfl) (by decide) (.cons rfl ?_ .nil)
    refine (callv en12 (.cons (.t rfl) .nil) (fun w I => check_ok _ w) ?_)
    refine heldN_of (by repeat first | exact sR | exact sN | apply sC | apply sS | apply sA) ?_
    refine take 3 rfl (by kernel_rfl) (by kernel_rfl) (by kernel_rfl) (by repeat first | exact sR | exact sN | apply sC | apply sS | apply sA) (Ev.eql_i (.t rfl) (.t rfl)) ?_
    refine take 4 rfl (by kernel_rfl) (by kernel_rfl) (by kernel_rfl) (by repeat first | exact sR | exact sN | apply sC | apply sS | apply sA) (Ev.to (v' := .bool true) (Ev.move (.t rfl)) (congrArg Value.bool (by unfold ckM; simp_all))) ?_
    refine takeg 5 rfl (by kernel_rfl) (by kernel_rfl) (by kernel_rfl) (by repeat first | exact sR | exact sN | apply sC | apply sS | apply sA) rfl rfl (Ev.load (xv := m) ty31 (.t rfl) (ptsVar (by repeat first | exact mH | apply mT | apply mA) (Lens.id _))) ?_
    refine takeg 6 rfl (by kernel_rfl) (by kernel_rfl) (by kernel_rfl) (by repeat first | exact sR | exact sN | apply sC | apply sS | apply sA) rfl rfl (Ev.move (.t rfl)) ?_
    refine takeg 7 rfl (by kernel_rfl) (by kernel_rfl) (by kernel_rfl) (by repeat first | exact sR | exact sN | apply sC | apply sS | apply sA) rfl rfl (Ev.load (xv := h) ty35 (.t rfl) (ptsVar (by repeat first | exact mH | apply mT | apply mA) (Lens.id _))) ?_
    refine takeg 9 rfl (by kernel_rfl) (by kernel_rfl) (by kernel_rfl) (by repeat first | exact sR | exact sN | apply sC | apply sS | apply sA) rfl rfl (Ev.load (xv := m) ty31 (.t rfl) (ptsVar (by repeat first | exact mH | apply mT | apply mA) (Lens.id _))) ?_
    refine takeg 10 rfl (by kernel_rfl) (by kernel_rfl) (by kernel_rfl) (by repeat first | exact sR | exact sN | apply sC | apply sS | apply sA) rfl rfl (Ev.move (.t rfl)) ?_
    refine takeg 11 rfl (by kernel_rfl) (by kernel_rfl) (by kernel_rfl) (by repeat first | exact sR | exact sN | apply sC | apply sS | apply sA) rfl rfl (Ev.load (xv := h) ty35 (.t rfl) (ptsVar (by repeat first | exact mH | apply mT | apply mA) (Lens.id _))) ?_
    refine all [8] (by kernel_rfl) (by decide) (.cons rfl ?_ .nil)
    refine (callg rfl rfl en13 (.cons (.g rfl id) (.cons (.g rfl id) (.cons (.g rfl id) .nil))) (fun hg w I => meets_ok _ _ _ w) ?_)
    refine heldN_of (by repeat first | exact sR | exact sN | apply sC | apply sS | apply sA) ?_
    refine all [12] (by kernel_rfl) (by decide) (.cons rfl ?_ .nil)
    refine (callg rfl rfl en14 (.cons (.g rfl id) (.cons (.g rfl id) (.cons (.g rfl id) .nil))) (fun hg w I => rmeets_ok _ _ _ w) ?_)
    refine heldN_of (by repeat first | exact sR | exact sN | apply sC | apply sS | apply sA) ?_
    refine takeg 13 rfl (by kernel_rfl) (by kernel_rfl) (by kernel_rfl) (by repeat first | exact sR | exact sN | apply sC | apply sS | apply sA) rfl rfl (Ev.eql_b Try.underlying4 (.g rfl id) (.g rfl id)) ?_
    refine take 14 rfl (by kernel_rfl) (by kernel_rfl) (by kernel_rfl) (by repeat first | exact sR | exact sN | apply sC | apply sS | apply sA) (Ev.pickA (.t rfl) (fun {_} h => by cases h; rfl) ⟨_, rfl⟩ (by intro h1 h; first | (rw [h] <;> rfl) | (rw [h1, h] <;> rfl) | (rw [h, h1] <;> rfl) | simp_all) (.c (v := .bool false) rfl)) ?_
    refine take 15 rfl (by kernel_rfl) (by kernel_rfl) (by kernel_rfl) (by repeat first | exact sR | exact sN | apply sC | apply sS | apply sA) (Ev.to (v' := .bool true) (Ev.move (.t rfl)) (congrArg Value.bool (by simp))) ?_
    refine all [16] (by kernel_rfl) (by decide) (.cons rfl ?_ .nil)
    refine (callg rfl rfl en15 .nil (fun hg w I => works_ok w) ?_)
    refine heldN_of (by repeat first | exact sR | exact sN | apply sC | apply sS | apply sA) ?_
    refine take 17 rfl (by kernel_rfl) (by kernel_rfl) (by kernel_rfl) (by repeat first | exact sR | exact sN | apply sC | apply sS | apply sA) (Ev.pickA (.t rfl) (fun {_} h => by cases h; rfl) ⟨_, rfl⟩ (by intro h1 h; first | (rw [h] <;> rfl) | (rw [h1, h] <;> rfl) | (rw [h, h1] <;> rfl) | simp_all) (.c (v := .bool false) rfl)) ?_
    refine take 18 rfl (by kernel_rfl) (by kernel_rfl) (by kernel_rfl) (by repeat first | exact sR | exact sN | apply sC | apply sS | apply sA) (Ev.assign (.t rfl)) ?_
    refine over (by kernel_rfl) ?_
    refine pN ?_
    refine ret ?_
    refine done rfl (.tmp rfl .nil) (retE ?_)
    rfl
  · refine skip ?_
    refine pN ?_
    refine seq ?_
    refine draw' (by kernel_rfl) ?_
    refine take 0 rfl (by kernel_rfl) (by kernel_rfl) (by kernel_rfl) (by repeat first | exact sR | exact sN | apply sC | apply sS | apply sA) (Ev.load (xv := m) ty31 (.t rfl) (ptsVar (by repeat first | exact mH | apply mT | apply mA) (Lens.id _))) ?_
    refine take 2 rfl (by kernel_rfl) (by kernel_rfl) (by kernel_rfl) (by repeat first | exact sR | exact sN | apply sC | apply sS | apply sA) (Ev.move (.t rfl)) ?_
    refine all [1] (by kernel_rfl) (by decide) (.cons rfl ?_ .nil)
    refine (callv en12 (.cons (.t rfl) .nil) (fun w I => check_ok _ w) ?_)
    refine heldN_of (by repeat first | exact sR | exact sN | apply sC | apply sS | apply sA) ?_
    refine take 3 rfl (by kernel_rfl) (by kernel_rfl) (by kernel_rfl) (by repeat first | exact sR | exact sN | apply sC | apply sS | apply sA) (Ev.eql_i (.t rfl) (.t rfl)) ?_
    refine take 4 rfl (by kernel_rfl) (by kernel_rfl) (by kernel_rfl) (by repeat first | exact sR | exact sN | apply sC | apply sS | apply sA) (Ev.to (v' := .bool true) (Ev.move (.t rfl)) (congrArg Value.bool (by unfold ckM; simp_all))) ?_
    refine takeg 5 rfl (by kernel_rfl) (by kernel_rfl) (by kernel_rfl) (by repeat first | exact sR | exact sN | apply sC | apply sS | apply sA) rfl rfl (Ev.load (xv := m) ty31 (.t rfl) (ptsVar (by repeat first | exact mH | apply mT | apply mA) (Lens.id _))) ?_
    refine takeg 6 rfl (by kernel_rfl) (by kernel_rfl) (by kernel_rfl) (by repeat first | exact sR | exact sN | apply sC | apply sS | apply sA) rfl rfl (Ev.move (.t rfl)) ?_
    refine takeg 7 rfl (by kernel_rfl) (by kernel_rfl) (by kernel_rfl) (by repeat first | exact sR | exact sN | apply sC | apply sS | apply sA) rfl rfl (Ev.load (xv := h) ty35 (.t rfl) (ptsVar (by repeat first | exact mH | apply mT | apply mA) (Lens.id _))) ?_
    refine takeg 9 rfl (by kernel_rfl) (by kernel_rfl) (by kernel_rfl) (by repeat first | exact sR | exact sN | apply sC | apply sS | apply sA) rfl rfl (Ev.load (xv := m) ty31 (.t rfl) (ptsVar (by repeat first | exact mH | apply mT | apply mA) (Lens.id _))) ?_
    refine takeg 10 rfl (by kernel_rfl) (by kernel_rfl) (by kernel_rfl) (by repeat first | exact sR | exact sN | apply sC | apply sS | apply sA) rfl rfl (Ev.move (.t rfl)) ?_
    refine takeg 11 rfl (by kernel_rfl) (by kernel_rfl) (by kernel_rfl) (by repeat first | exact sR | exact sN | apply sC | apply sS | apply sA) rfl rfl (Ev.load (xv := h) ty35 (.t rfl) (ptsVar (by repeat first | exact mH | apply mT | apply mA) (Lens.id _))) ?_
    refine all [8] (by kernel_rfl) (by decide) (.cons rfl ?_ .nil)
    refine (callg rfl rfl en13 (.cons (.g rfl id) (.cons (.g rfl id) (.cons (.g rfl id) .nil))) (fun hg w I => meets_ok _ _ _ w) ?_)
    refine heldN_of (by repeat first | exact sR | exact sN | apply sC | apply sS | apply sA) ?_
    refine all [12] (by kernel_rfl) (by decide) (.cons rfl ?_ .nil)
    refine (callg rfl rfl en14 (.cons (.g rfl id) (.cons (.g rfl id) (.cons (.g rfl id) .nil))) (fun hg w I => rmeets_ok _ _ _ w) ?_)
    refine heldN_of (by repeat first | exact sR | exact sN | apply sC | apply sS | apply sA) ?_
    refine takeg 13 rfl (by kernel_rfl) (by kernel_rfl) (by kernel_rfl) (by repeat first | exact sR | exact sN | apply sC | apply sS | apply sA) rfl rfl (Ev.eql_b Try.underlying4 (.g rfl id) (.g rfl id)) ?_
    refine take 14 rfl (by kernel_rfl) (by kernel_rfl) (by kernel_rfl) (by repeat first | exact sR | exact sN | apply sC | apply sS | apply sA) (Ev.pickA (.t rfl) (fun {_} h => by cases h; rfl) ⟨_, rfl⟩ (by intro h1 h; first | (rw [h] <;> rfl) | (rw [h1, h] <;> rfl) | (rw [h, h1] <;> rfl) | simp_all) (.c (v := .bool false) rfl)) ?_
    refine take 15 rfl (by kernel_rfl) (by kernel_rfl) (by kernel_rfl) (by repeat first | exact sR | exact sN | apply sC | apply sS | apply sA) (Ev.to (v' := .bool true) (Ev.move (.t rfl)) (congrArg Value.bool (by simp))) ?_
    refine all [16] (by kernel_rfl) (by decide) (.cons rfl ?_ .nil)
    refine (callg rfl rfl en15 .nil (fun hg w I => works_ok w) ?_)
    refine heldN_of (by repeat first | exact sR | exact sN | apply sC | apply sS | apply sA) ?_
    refine take 17 rfl (by kernel_rfl) (by kernel_rfl) (by kernel_rfl) (by repeat first | exact sR | exact sN | apply sC | apply sS | apply sA) (Ev.pickA (.t rfl) (fun {_} h => by cases h; rfl) ⟨_, rfl⟩ (by intro h1 h; first | (rw [h] <;> rfl) | (rw [h1, h] <;> rfl) | (rw [h, h1] <;> rfl) | simp_all) (.c (v := .bool false) rfl)) ?_
    refine take 18 rfl (by kernel_rfl) (by kernel_rfl) (by kernel_rfl) (by repeat first | exact sR | exact sN | apply sC | apply sS | apply sA) (Ev.assign (.t rfl)) ?_
    refine over (by kernel_rfl) ?_
    refine pN ?_
    refine ret ?_
    refine done rfl (.tmp rfl .nil) (retE ?_)
    rfl

theorem en26 : Enters Try.prog 26 := Enters.mk' (by kernel_rfl)

theorem en27 : Enters Try.prog 27 := Enters.mk' (by kernel_rfl)

theorem en28 : Enters Try.prog 28 := Enters.mk' (by kernel_rfl)

theorem RulePairs_walk (m n : SMatch) (w : World) : Calls Try.prog 7 #[eMatch.val m, eMatch.val n] w (RetV w (.bool true)) := by
  refine enter0 42 Try.func7 rfl rfl (Nat.le_of_ble_eq_true rfl) ?_
  refine seq ?_
  refine region ?_
  refine cons (box (E := eMatch) (.t rfl) (fun b1 => ?_))
  refine cons (box (E := eMatch) (.t rfl) (fun b2 => ?_))
  refine cons (opv (Ev.assign (.c (v := .bool false) rfl)) ?_)
  refine nil ?_
  refine pN ?_
  refine seq ?_
  refine draw' (by kernel_rfl) ?_
  refine take 0 rfl (by kernel_rfl) (by kernel_rfl) (by kernel_rfl) (by repeat first | exact sR | exact sN | apply sC | apply sS | apply sA) (Ev.load (xv := m) ty31 (.t rfl) (ptsVar (by repeat first | exact mH | apply mT | apply mA) (Lens.id _))) ?_
  refine take 1 rfl (by kernel_rfl) (by kernel_rfl) (by kernel_rfl) (by repeat first | exact sR | exact sN | apply sC | apply sS | apply sA) (Ev.load (xv := n) ty31 (.t rfl) (ptsVar (by repeat first | exact mH | apply mT | apply mA) (Lens.id _))) ?_
  refine take 3 rfl (by kernel_rfl) (by kernel_rfl) (by kernel_rfl) (by repeat first | exact sR | exact sN | apply sC | apply sS | apply sA) (Ev.load (xv := m) ty31 (.t rfl) (ptsVar (by repeat first | exact mH | apply mT | apply mA) (Lens.id _))) ?_
  refine take 4 rfl (by kernel_rfl) (by kernel_rfl) (by kernel_rfl) (by repeat first | exact sR | exact sN | apply sC | apply sS | apply sA) (Ev.load (xv := n) ty31 (.t rfl) (ptsVar (by repeat first | exact mH | apply mT | apply mA) (Lens.id _))) ?_
  refine all [2] (by kernel_rfl) (by decide) (.cons rfl ?_ .nil)
  refine (callv en25 (.cons (.t rfl) (.cons (.t rfl) .nil)) (fun w I => covers_ok _ _ w) ?_)
  refine heldN_of (by repeat first | exact sR | exact sN | apply sC | apply sS | apply sA) ?_
  refine all [5] (by kernel_rfl) (by decide) (.cons rfl ?_ .nil)
  refine (callv en26 (.cons (.t rfl) (.cons (.t rfl) .nil)) (fun w I => rcovers_ok _ _ w) ?_)
  refine heldN_of (by repeat first | exact sR | exact sN | apply sC | apply sS | apply sA) ?_
  refine take 6 rfl (by kernel_rfl) (by kernel_rfl) (by kernel_rfl) (by repeat first | exact sR | exact sN | apply sC | apply sS | apply sA) (Ev.eql_b Try.underlying4 (.t rfl) (.t rfl)) ?_
  refine take 7 rfl (by kernel_rfl) (by kernel_rfl) (by kernel_rfl) (by repeat first | exact sR | exact sN | apply sC | apply sS | apply sA) (Ev.to (v' := .bool true) (Ev.move (.t rfl)) (congrArg Value.bool (by simp [covers_eq]))) ?_
  refine takeg 8 rfl (by kernel_rfl) (by kernel_rfl) (by kernel_rfl) (by repeat first | exact sR | exact sN | apply sC | apply sS | apply sA) rfl rfl (Ev.load (xv := n) ty31 (.t rfl) (ptsVar (by repeat first | exact mH | apply mT | apply mA) (Lens.id _))) ?_
  refine takeg 9 rfl (by kernel_rfl) (by kernel_rfl) (by kernel_rfl) (by repeat first | exact sR | exact sN | apply sC | apply sS | apply sA) rfl rfl (Ev.load (xv := m) ty31 (.t rfl) (ptsVar (by repeat first | exact mH | apply mT | apply mA) (Lens.id _))) ?_
  refine takeg 11 rfl (by kernel_rfl) (by kernel_rfl) (by kernel_rfl) (by repeat first | exact sR | exact sN | apply sC | apply sS | apply sA) rfl rfl (Ev.load (xv := n) ty31 (.t rfl) (ptsVar (by repeat first | exact mH | apply mT | apply mA) (Lens.id _))) ?_
  refine takeg 12 rfl (by kernel_rfl) (by kernel_rfl) (by kernel_rfl) (by repeat first | exact sR | exact sN | apply sC | apply sS | apply sA) rfl rfl (Ev.load (xv := m) ty31 (.t rfl) (ptsVar (by repeat first | exact mH | apply mT | apply mA) (Lens.id _))) ?_
  refine all [10] (by kernel_rfl) (by decide) (.cons rfl ?_ .nil)
  refine (callg rfl rfl en25 (.cons (.g rfl id) (.cons (.g rfl id) .nil)) (fun hg w I => covers_ok _ _ w) ?_)
  refine heldN_of (by repeat first | exact sR | exact sN | apply sC | apply sS | apply sA) ?_
  refine all [13] (by kernel_rfl) (by decide) (.cons rfl ?_ .nil)
  refine (callg rfl rfl en26 (.cons (.g rfl id) (.cons (.g rfl id) .nil)) (fun hg w I => rcovers_ok _ _ w) ?_)
  refine heldN_of (by repeat first | exact sR | exact sN | apply sC | apply sS | apply sA) ?_
  refine takeg 14 rfl (by kernel_rfl) (by kernel_rfl) (by kernel_rfl) (by repeat first | exact sR | exact sN | apply sC | apply sS | apply sA) rfl rfl (Ev.eql_b Try.underlying4 (.g rfl id) (.g rfl id)) ?_
  refine take 15 rfl (by kernel_rfl) (by kernel_rfl) (by kernel_rfl) (by repeat first | exact sR | exact sN | apply sC | apply sS | apply sA) (Ev.pickA (.t rfl) (fun {_} h => by cases h; rfl) ⟨_, rfl⟩ (by intro h1 h; first | (rw [h] <;> rfl) | (rw [h1, h] <;> rfl) | (rw [h, h1] <;> rfl) | simp_all) (.c (v := .bool false) rfl)) ?_
  refine take 16 rfl (by kernel_rfl) (by kernel_rfl) (by kernel_rfl) (by repeat first | exact sR | exact sN | apply sC | apply sS | apply sA) (Ev.to (v' := .bool true) (Ev.move (.t rfl)) (congrArg Value.bool (by simp [covers_eq]))) ?_
  refine takeg 17 rfl (by kernel_rfl) (by kernel_rfl) (by kernel_rfl) (by repeat first | exact sR | exact sN | apply sC | apply sS | apply sA) rfl rfl (Ev.load (xv := m) ty31 (.t rfl) (ptsVar (by repeat first | exact mH | apply mT | apply mA) (Lens.id _))) ?_
  refine takeg 18 rfl (by kernel_rfl) (by kernel_rfl) (by kernel_rfl) (by repeat first | exact sR | exact sN | apply sC | apply sS | apply sA) rfl rfl (Ev.load (xv := n) ty31 (.t rfl) (ptsVar (by repeat first | exact mH | apply mT | apply mA) (Lens.id _))) ?_
  refine takeg 20 rfl (by kernel_rfl) (by kernel_rfl) (by kernel_rfl) (by repeat first | exact sR | exact sN | apply sC | apply sS | apply sA) rfl rfl (Ev.load (xv := m) ty31 (.t rfl) (ptsVar (by repeat first | exact mH | apply mT | apply mA) (Lens.id _))) ?_
  refine takeg 21 rfl (by kernel_rfl) (by kernel_rfl) (by kernel_rfl) (by repeat first | exact sR | exact sN | apply sC | apply sS | apply sA) rfl rfl (Ev.load (xv := n) ty31 (.t rfl) (ptsVar (by repeat first | exact mH | apply mT | apply mA) (Lens.id _))) ?_
  refine all [19] (by kernel_rfl) (by decide) (.cons rfl ?_ .nil)
  refine (callg rfl rfl en27 (.cons (.g rfl id) (.cons (.g rfl id) .nil)) (fun hg w I => apart_ok _ _ w) ?_)
  refine heldN_of (by repeat first | exact sR | exact sN | apply sC | apply sS | apply sA) ?_
  refine all [22] (by kernel_rfl) (by decide) (.cons rfl ?_ .nil)
  refine (callg rfl rfl en28 (.cons (.g rfl id) (.cons (.g rfl id) .nil)) (fun hg w I => rapart_ok _ _ w) ?_)
  refine heldN_of (by repeat first | exact sR | exact sN | apply sC | apply sS | apply sA) ?_
  refine takeg 23 rfl (by kernel_rfl) (by kernel_rfl) (by kernel_rfl) (by repeat first | exact sR | exact sN | apply sC | apply sS | apply sA) rfl rfl (Ev.eql_b Try.underlying4 (.g rfl id) (.g rfl id)) ?_
  refine take 24 rfl (by kernel_rfl) (by kernel_rfl) (by kernel_rfl) (by repeat first | exact sR | exact sN | apply sC | apply sS | apply sA) (Ev.pickA (.t rfl) (fun {_} h => by cases h; rfl) ⟨_, rfl⟩ (by intro h1 h; first | (rw [h] <;> rfl) | (rw [h1, h] <;> rfl) | (rw [h, h1] <;> rfl) | simp_all) (.c (v := .bool false) rfl)) ?_
  refine take 25 rfl (by kernel_rfl) (by kernel_rfl) (by kernel_rfl) (by repeat first | exact sR | exact sN | apply sC | apply sS | apply sA) (Ev.to (v' := .bool true) (Ev.move (.t rfl)) (congrArg Value.bool (by simp [apart_eq]))) ?_
  refine takeg 26 rfl (by kernel_rfl) (by kernel_rfl) (by kernel_rfl) (by repeat first | exact sR | exact sN | apply sC | apply sS | apply sA) rfl rfl (Ev.load (xv := n) ty31 (.t rfl) (ptsVar (by repeat first | exact mH | apply mT | apply mA) (Lens.id _))) ?_
  refine takeg 27 rfl (by kernel_rfl) (by kernel_rfl) (by kernel_rfl) (by repeat first | exact sR | exact sN | apply sC | apply sS | apply sA) rfl rfl (Ev.load (xv := m) ty31 (.t rfl) (ptsVar (by repeat first | exact mH | apply mT | apply mA) (Lens.id _))) ?_
  refine takeg 29 rfl (by kernel_rfl) (by kernel_rfl) (by kernel_rfl) (by repeat first | exact sR | exact sN | apply sC | apply sS | apply sA) rfl rfl (Ev.load (xv := n) ty31 (.t rfl) (ptsVar (by repeat first | exact mH | apply mT | apply mA) (Lens.id _))) ?_
  refine takeg 30 rfl (by kernel_rfl) (by kernel_rfl) (by kernel_rfl) (by repeat first | exact sR | exact sN | apply sC | apply sS | apply sA) rfl rfl (Ev.load (xv := m) ty31 (.t rfl) (ptsVar (by repeat first | exact mH | apply mT | apply mA) (Lens.id _))) ?_
  refine all [28] (by kernel_rfl) (by decide) (.cons rfl ?_ .nil)
  refine (callg rfl rfl en27 (.cons (.g rfl id) (.cons (.g rfl id) .nil)) (fun hg w I => apart_ok _ _ w) ?_)
  refine heldN_of (by repeat first | exact sR | exact sN | apply sC | apply sS | apply sA) ?_
  refine all [31] (by kernel_rfl) (by decide) (.cons rfl ?_ .nil)
  refine (callg rfl rfl en28 (.cons (.g rfl id) (.cons (.g rfl id) .nil)) (fun hg w I => rapart_ok _ _ w) ?_)
  refine heldN_of (by repeat first | exact sR | exact sN | apply sC | apply sS | apply sA) ?_
  refine takeg 32 rfl (by kernel_rfl) (by kernel_rfl) (by kernel_rfl) (by repeat first | exact sR | exact sN | apply sC | apply sS | apply sA) rfl rfl (Ev.eql_b Try.underlying4 (.g rfl id) (.g rfl id)) ?_
  refine take 33 rfl (by kernel_rfl) (by kernel_rfl) (by kernel_rfl) (by repeat first | exact sR | exact sN | apply sC | apply sS | apply sA) (Ev.pickA (.t rfl) (fun {_} h => by cases h; rfl) ⟨_, rfl⟩ (by intro h1 h; first | (rw [h] <;> rfl) | (rw [h1, h] <;> rfl) | (rw [h, h1] <;> rfl) | simp_all) (.c (v := .bool false) rfl)) ?_
  refine take 34 rfl (by kernel_rfl) (by kernel_rfl) (by kernel_rfl) (by repeat first | exact sR | exact sN | apply sC | apply sS | apply sA) (Ev.to (v' := .bool true) (Ev.move (.t rfl)) (congrArg Value.bool (by simp [apart_eq]))) ?_
  refine all [35] (by kernel_rfl) (by decide) (.cons rfl ?_ .nil)
  refine (callg rfl rfl en15 .nil (fun hg w I => works_ok w) ?_)
  refine heldN_of (by repeat first | exact sR | exact sN | apply sC | apply sS | apply sA) ?_
  refine take 36 rfl (by kernel_rfl) (by kernel_rfl) (by kernel_rfl) (by repeat first | exact sR | exact sN | apply sC | apply sS | apply sA) (Ev.pickA (.t rfl) (fun {_} h => by cases h; rfl) ⟨_, rfl⟩ (by intro h1 h; first | (rw [h] <;> rfl) | (rw [h1, h] <;> rfl) | (rw [h, h1] <;> rfl) | simp_all) (.c (v := .bool false) rfl)) ?_
  refine take 37 rfl (by kernel_rfl) (by kernel_rfl) (by kernel_rfl) (by repeat first | exact sR | exact sN | apply sC | apply sS | apply sA) (Ev.assign (.t rfl)) ?_
  refine over (by kernel_rfl) ?_
  refine pN ?_
  refine ret ?_
  refine done rfl (.tmp rfl .nil) (retE ?_)
  rfl
end Go.Proofs.Ytkmdhmfgbgngeaa
