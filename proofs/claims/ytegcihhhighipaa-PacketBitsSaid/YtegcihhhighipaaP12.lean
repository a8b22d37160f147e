/- packet -/
import Derived.Test.YtegcihhhighipaaP11
set_option linter.unusedVariables false
set_option linter.unusedSimpArgs false
namespace Go.Proofs.Ytegcihhhighipaa
open Go Go.Gx

/-- A TTL one less. -/
def oldH (h : SHeader) : SHeader := { h with tTL := h.tTL - 1 }
/-- What is wrong with making it older. -/
def olderE (b : List UInt8) : Int := if readE b ≠ 0 then readE b else if (readH b).tTL = 0 then 3 else checkH (oldH (readH b)) (readD b).length
theorem readD_len (b : List UInt8) (he : readE b = 0) : (readD b).length ≤ 2048 := by
  have h1 : ¬ ((frontB b).2.1 < frontN (frontB b).1 ∨ 2048 < (frontB b).2.1) := fun h => by
    unfold readE at he
    rw [if_pos h] at he
    split at he
    · exact absurd he (by assumption)
    · exact absurd he (by decide)
  unfold readD midD restOf
  simp
  omega
/-- What Older hands back. -/
def RetY (w : World) (b : List UInt8) : Ending → World → Prop :=
  RetN w (fun o : OV => olderE b ≠ 0 → o = nilSl) (fun o => .tuple #[o.v, I (olderE b)]) (fun o => if olderE b = 0 then [OwnS o.v u8E (makeB (oldH (readH b)) (readD b)) 5] else [])
theorem retY_bad {w0 : World} {n : Nat} {L : List Res} {b : List UInt8} {e : Int} (he : olderE b = e) (hn : e ≠ 0) : ∀ w, WInv ⟨n, w0, Nope⟩ L w → RetY w0 b (.returned (.tuple #[.slice none 0 0, I e])) w := by
  subst he
  exact retN nilSl (fun _ => rfl) rfl (by rw [if_neg hn]; exact List.nil_sublist _)

theorem en22 : Enters Try.prog 22 := Enters.mk' (by kernel_rfl)

theorem en13 : Enters Try.prog 13 := Enters.mk' (by kernel_rfl)

theorem older_ok (v : Value) (b : List UInt8) (w : World) (hb : IsSl u8E w v b) : Calls Try.prog 27 #[v] w (RetY w b) := by
  refine enter0 27 Try.func27 rfl rfl (Nat.le_of_ble_eq_true rfl) ?_
  refine seq ?_
  refine region ?_
  refine cons (opv (Ev.assign (.c (v := (Go.Value.slice none 0 0)) rfl)) ?_)
  refine cons (opv (Ev.assign (.c (v := I 0) rfl)) ?_)
  refine nil ?_
  refine pN ?_
  refine seq ?_
  refine region ?_
  refine cons (opv (Ev.move (.t rfl)) ?_)
  refine cons (calln (X := OV) (fun o : OV => readE b ≠ 0 → o = nilSl) (fun o => .tuple #[eHeader.val (wD (readH b) o), I (readN b), I (readE b)]) (fun o => if readE b = 0 then [OwnS o.v u8E (readD b) 5] else []) en22 (.cons (.t rfl) .nil) (fun w I => read_ok _ b w (hb.keep0 I.keeps)) (fun x hx => ?_))
  refine cons (opv (Ev.move (.t rfl)) ?_)
  refine cons (opv (Ev.extract (.t rfl) rfl) ?_)
  refine cons (opv (Ev.extract (.t rfl) rfl) ?_)
  refine cons (opv (Ev.extract (.t rfl) rfl) ?_)
  refine cons (alloc z29 (fun b1 => ?_))
  refine cons (storeV ty29 (Lens.id _) (.t rfl) (.t rfl) (by repeat first | exact Upd.head | apply Upd.tail | apply Upd.right) ?_)
  refine cons (opv (Ev.assign (.t rfl)) ?_)
  refine cons (opv (Ev.assign (.t rfl)) ?_)
  refine nil ?_
  refine pN ?_
  refine seq ?_
  refine seq ?_
  refine region ?_
  refine cons (opv (Ev.move (.t rfl)) ?_)
  refine cons (opv (Ev.neq_i (.t rfl) (.c (v := I 0) rfl)) ?_)
  refine nil ?_
  refine pN ?_
  first | refine condD rfl (fun h0 => ?_) (fun h0 => ?_) | refine cond rfl (fun h0 => ?_) (fun h0 => ?_)
  · try simp only [Bool.and_eq_true, Bool.or_eq_true, Bool.or_eq_false_iff, Bool.and_eq_false_iff, Bool.not_eq_true', Bool.not_eq_false', decide_eq_true_eq, decide_eq_false_iff_not, Decidable.not_not] at h0
    have h0 : readE b ≠ 0 := h0
    refine seq ?_
    refine region ?_
    refine cons (opv (Ev.move (.t rfl)) ?_)
    refine cons (opv (Ev.assign (.c (v := (Go.Value.slice none 0 0)) rfl)) ?_)
    refine cons (opv (Ev.assign (.t rfl)) ?_)
    refine nil ?_
    refine pN ?_
    refine ret ?_
    refine pR ?_
    refine done rfl (.tmp rfl (.tmp rfl .nil)) (fun w I => ?_)
    exact retY_bad (by unfold olderE; rw [if_pos h0]) h0 w I
  · try simp only [Bool.and_eq_true, Bool.or_eq_true, Bool.or_eq_false_iff, Bool.and_eq_false_iff, Bool.not_eq_true', Bool.not_eq_false', decide_eq_true_eq, decide_eq_false_iff_not, Decidable.not_not] at h0
    have h0 : readE b = 0 := by simpa using h0
    rw [if_pos h0]
    refine skip ?_
    refine pN ?_
    refine seq ?_
    refine seq ?_
    refine region ?_
    refine cons (opv (Ev.fieldAddr (o := 37) (.t rfl) (by kernel_rfl)) ?_)
    refine cons (opv (Ev.load ty5 (.t rfl) (ptsVar (by repeat first | exact mH | apply mT | apply mA) SHeader.l_tTL)) ?_)
    refine cons (opv (Ev.eql_u8 (.t rfl) (.c (v := U8 0) rfl)) ?_)
    refine nil ?_
    refine pN ?_
    first | refine condD rfl (fun h1 => ?_) (fun h1 => ?_) | refine cond rfl (fun h1 => ?_) (fun h1 => ?_)
    · try simp only [Bool.and_eq_true, Bool.or_eq_true, Bool.or_eq_false_iff, Bool.and_eq_false_iff, Bool.not_eq_true', Bool.not_eq_false', decide_eq_true_eq, decide_eq_false_iff_not, Decidable.not_not] at h1
      have h1 : (readH b).tTL = 0 := h1
      refine seq ?_
      refine region ?_
      refine cons (opv (Ev.assign (.c (v := (Go.Value.slice none 0 0)) rfl)) ?_)
      refine cons (opv (Ev.assign (.c (v := I 3) rfl)) ?_)
      refine nil ?_
      refine pN ?_
      refine ret ?_
      refine pR ?_
      refine done rfl (.tmp rfl (.tmp rfl .nil)) (fun w I => ?_)
      exact retY_bad (by unfold olderE; rw [if_neg (fun k => k h0), if_pos h1]) (by decide) w I
    · try simp only [Bool.and_eq_true, Bool.or_eq_true, Bool.or_eq_false_iff, Bool.and_eq_false_iff, Bool.not_eq_true', Bool.not_eq_false', decide_eq_true_eq, decide_eq_false_iff_not, Decidable.not_not] at h1
      have h1 : ¬ (readH b).tTL = 0 := h1
      have e : olderE b = checkH (oldH (readH b)) (readD b).length := by unfold olderE; rw [if_neg (fun k => k h0), if_neg h1]
      refine skip ?_
      refine pN ?_
      refine seq ?_
      refine region ?_
      refine cons (opv (Ev.fieldAddr (o := 37) (.t rfl) (by kernel_rfl)) ?_)
      refine cons (opv (Ev.load ty5 (.t rfl) (ptsVar (by repeat first | exact mH | apply mT | apply mA) SHeader.l_tTL)) ?_)
      refine cons (opv (Ev.sub_u8 (.t rfl) (.c (v := U8 1) rfl)) ?_)
      refine cons (opv (Ev.fieldAddr (o := 37) (.t rfl) (by kernel_rfl)) ?_)
      refine cons (storeV ty5 SHeader.l_tTL (.t rfl) (.t rfl) (by repeat first | exact Upd.head | apply Upd.tail | apply Upd.right) ?_)
      refine nil ?_
      refine pN ?_
      refine seq ?_
      refine region ?_
      refine cons (opv (Ev.load ty29 (.t rfl) (ptsVar (by repeat first | exact mH | apply mT | apply mA) (Lens.id _))) ?_)
      refine cons (calln (X := OV) (fun o : OV => checkH (oldH (readH b)) (readD b).length ≠ 0 → o = nilSl) (fun o => .tuple #[o.v, I (checkH (oldH (readH b)) (readD b).length)]) (fun o => if checkH (oldH (readH b)) (readD b).length = 0 then [OwnS o.v u8E (makeB (oldH (readH b)) (readD b)) 5] else []) en13 (.cons (.t rfl) .nil) (fun w I => make_ok (wD (oldH (readH b)) x) (readD b) w (isSl_own (by repeat first | exact mH | apply mT | apply mA) w I) (by have := readD_len b h0; omega)) (fun y hy => ?_))
      refine cons (opv (Ev.extract (.t rfl) rfl) ?_)
      refine cons (opv (Ev.extract (.t rfl) rfl) ?_)
      refine cons (opv (Ev.assign (.t rfl)) ?_)
      refine cons (opv (Ev.assign (.t rfl)) ?_)
      refine nil ?_
      refine pN ?_
      refine ret ?_
      refine done rfl (.tmp rfl (.tmp rfl .nil)) (fun w I => ?_)
      exact retN y (fun hn => hy (by rw [← e]; exact hn)) (by rw [e]; rfl) (by rw [e]; exact List.sublist_append_left _ _) w I
end Go.Proofs.Ytegcihhhighipaa
