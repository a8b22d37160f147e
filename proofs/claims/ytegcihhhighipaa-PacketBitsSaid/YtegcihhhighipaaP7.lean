/- packet -/
import Derived.Test.YtegcihhhighipaaP6
set_option linter.unusedVariables false
set_option linter.unusedSimpArgs false
namespace Go.Proofs.Ytegcihhhighipaa
open Go Go.Gx

/-- What stands behind the front, with the right sum. -/
def restB (h : SHeader) (d : List UInt8) : List UInt8 := if midN h.proto = 0 then bodyB h d 0 else layB (bodyB h d 0) (atN h.proto) (sumH h (bodyB h d 0))
/-- The packet. -/
def makeB (h : SHeader) (d : List UInt8) : List UInt8 := headB h (restB h d).length ++ restB h d
theorem bodyB_length (h : SHeader) (d : List UInt8) (s : UInt16) : ((bodyB h d s).length : Int) = midN h.proto + d.length := by
  unfold bodyB midN
  split
  · simp; omega
  · split
    · simp; omega
    · simp
@[simp] theorem restB_length (h : SHeader) (d : List UInt8) : ((restB h d).length : Int) = midN h.proto + d.length := by
  unfold restB
  split
  · exact bodyB_length h d 0
  · rw [layB_length]; exact bodyB_length h d 0
theorem midN_cases (p : UInt8) : midN p = 0 ∨ p = 6 ∧ midN p = 20 ∨ p = 17 ∧ midN p = 8 := by unfold midN; split <;> (try split) <;> simp_all
theorem atN_le (p : UInt8) (h : midN p ≠ 0) : 0 ≤ atN p ∧ atN p + 1 < midN p := by
  rcases midN_cases p with e | ⟨rfl, e⟩ | ⟨rfl, e⟩
  · exact absurd e h
  · rw [e]; decide
  · rw [e]; decide
theorem checkH_len (h : SHeader) (n : Int) (hc : checkH h n = 0) : n ≤ 2048 := by
  unfold checkH at hc
  have h1 : 0 ≤ frontN h := by unfold frontN; cases h.src.v6 <;> decide
  have h2 : 0 ≤ midN h.proto := by rcases midN_cases h.proto with e | ⟨_, e⟩ | ⟨_, e⟩ <;> omega
  split at hc
  · simp at hc
  · split at hc
    · simp at hc
    · split at hc
      · simp at hc
      · omega
theorem headB_le (h : SHeader) (n : Int) : (headB h n).length ≤ 44 := by
  have a1 := addrB_le h.src
  have a2 := addrB_le h.dst
  unfold headB
  split
  · simp; omega
  · rw [layB_length, headF_length]; omega
/-- What Make hands back. -/
def RetM (w : World) (h : SHeader) (d : List UInt8) : Ending → World → Prop :=
  RetN w (fun o : OV => checkH h d.length ≠ 0 → o = nilSl) (fun o => .tuple #[o.v, I (checkH h d.length)]) (fun o => if checkH h d.length = 0 then [OwnS o.v u8E (makeB h d) 5] else [])

theorem en14 : Enters Try.prog 14 := Enters.mk' (by kernel_rfl)

theorem en33 : Enters Try.prog 33 := Enters.mk' (by kernel_rfl)

theorem en36 : Enters Try.prog 36 := Enters.mk' (by kernel_rfl)

theorem en37 : Enters Try.prog 37 := Enters.mk' (by kernel_rfl)

theorem en38 : Enters Try.prog 38 := Enters.mk' (by kernel_rfl)

theorem make_ok (h : SHeader) (d : List UInt8) (w : World) (hd : IsSl u8E w h.data.v d) (hl : d.length ≤ 1152921504606846975) : Calls Try.prog 13 #[eHeader.val h] w (RetM w h d) := by
  refine enter0 31 Try.func13 rfl rfl (Nat.le_of_ble_eq_true rfl) ?_
  refine seq ?_
  refine region ?_
  refine cons (box (E := eHeader) (.t rfl) (fun b1 => ?_))
  refine cons (opv (Ev.assign (.c (v := (Go.Value.slice none 0 0)) rfl)) ?_)
  refine cons (opv (Ev.assign (.c (v := I 0) rfl)) ?_)
  refine nil ?_
  refine pN ?_
  refine seq ?_
  refine seq ?_
  refine region ?_
  refine cons (opv (Ev.load (xv := h) ty29 (.t rfl) (ptsVar (by repeat first | exact mH | apply mT | apply mA) (Lens.id _))) ?_)
  refine cons (callv en14 (.cons (.t rfl) .nil) (fun w I => check_ok _ d w (hd.keep0 I.keeps) (by omega)) ?_)
  refine cons (opv (Ev.assign (.t rfl)) ?_)
  refine nil ?_
  refine pN ?_
  refine seq ?_
  refine region ?_
  refine cons (opv (Ev.move (.t rfl)) ?_)
  refine cons (opv (Ev.neq_i (.t rfl) (.c (v := I 0) rfl)) ?_)
  refine nil ?_
  refine pN ?_
  first | refine condD rfl (fun hbad => ?_) (fun hok => ?_) | refine cond rfl (fun hbad => ?_) (fun hok => ?_)
  · try simp only [Bool.and_eq_true, Bool.or_eq_true, Bool.or_eq_false_iff, Bool.and_eq_false_iff, Bool.not_eq_true', Bool.not_eq_false', decide_eq_true_eq, decide_eq_false_iff_not, Decidable.not_not] at hbad
    refine seq ?_
    refine region ?_
    refine cons (opv (Ev.move (.t rfl)) ?_)
    refine cons (opv (Ev.assign (.c (v := (Go.Value.slice none 0 0)) rfl)) ?_)
    refine cons (opv (Ev.assign (.t rfl)) ?_)
    refine nil ?_
    refine pN ?_
    refine ret ?_
    refine pR ?_
    refine done rfl (.tmp rfl (.tmp rfl .nil)) (fun w I => ?_)
    exact retN nilSl (fun _ => rfl) rfl (by rw [if_neg hbad]; exact List.nil_sublist _) w I
  · try simp only [Bool.and_eq_true, Bool.or_eq_true, Bool.or_eq_false_iff, Bool.and_eq_false_iff, Bool.not_eq_true', Bool.not_eq_false', decide_eq_true_eq, decide_eq_false_iff_not, Decidable.not_not] at hok
    have hcl := checkH_len h d.length hok
    have hbl := bodyB_length h d 0
    have hrl := restB_length h d
    have hmc := midN_cases h.proto
    refine skip ?_
    refine pN ?_
    refine seq ?_
    refine region ?_
    refine cons (opv (Ev.load (xv := h) ty29 (.t rfl) (ptsVar (by repeat first | exact mH | apply mT | apply mA) (Lens.id _))) ?_)
    refine cons (callo en33 (.cons (.t rfl) .nil) (fun w I => behind_ok _ d w (hd.keep0 I.keeps) (by omega)) (fun v2 => ?_))
    refine cons (opv (Ev.assign (.t rfl)) ?_)
    refine nil ?_
    refine pN ?_
    refine cut (X := OV × (List UInt8)) (fun x : OV × (List UInt8) => (x.2 = restB h d)) (fun x : OV × (List UInt8) => [(1, true, .pointer (some ⟨b1, 0, none⟩)), (5, true, x.1.v)]) (fun x : OV × (List UInt8) => [OwnS x.1.v u8E x.2 5, Var b1 eHeader h 29]) ?_ (fun x hx => ?_)
    · refine seq ?_
      refine region ?_
      refine cons (opv (Ev.fieldAddr (o := 34) (.t rfl) (by kernel_rfl)) ?_)
      refine cons (opv (Ev.load (xv := h.proto) ty5 (.t rfl) (ptsVar (by repeat first | exact mH | apply mT | apply mA) SHeader.l_proto)) ?_)
      refine cons (callv en34 (.cons (.t rfl) .nil) (fun w I => middle_ok _ w) ?_)
      refine cons (opv (Ev.gtr_i (.t rfl) (.c (v := I 0) rfl)) ?_)
      refine nil ?_
      refine pN ?_
      first | refine condD rfl (fun hm => ?_) (fun hm => ?_) | refine cond rfl (fun hm => ?_) (fun hm => ?_)
      · try simp only [Bool.and_eq_true, Bool.or_eq_true, Bool.or_eq_false_iff, Bool.and_eq_false_iff, Bool.not_eq_true', Bool.not_eq_false', decide_eq_true_eq, decide_eq_false_iff_not, Decidable.not_not] at hm
        have hat := atN_le h.proto (by omega)
        refine drawR Rem.head (by kernel_rfl) ?_
        refine take 0 rfl (by kernel_rfl) (by kernel_rfl) (by kernel_rfl) (by repeat first | exact sR | exact sN | apply sC | apply sS | apply sA) (Ev.move (.t rfl)) ?_
        refine take 1 rfl (by kernel_rfl) (by kernel_rfl) (by kernel_rfl) (by repeat first | exact sR | exact sN | apply sC | apply sS | apply sA) (Ev.fieldAddr (o := 34) (.t rfl) (by kernel_rfl)) ?_
        refine take 2 rfl (by kernel_rfl) (by kernel_rfl) (by kernel_rfl) (by repeat first | exact sR | exact sN | apply sC | apply sS | apply sA) (Ev.load (xv := h.proto) ty5 (.t rfl) (ptsVar (by repeat first | exact mH | apply mT | apply mA) SHeader.l_proto)) ?_
        refine take 4 rfl (by kernel_rfl) (by kernel_rfl) (by kernel_rfl) (by repeat first | exact sR | exact sN | apply sC | apply sS | apply sA) (Ev.load (xv := h) ty29 (.t rfl) (ptsVar (by repeat first | exact mH | apply mT | apply mA) (Lens.id _))) ?_
        refine take 5 rfl (by kernel_rfl) (by kernel_rfl) (by kernel_rfl) (by repeat first | exact sR | exact sN | apply sC | apply sS | apply sA) (Ev.move (.t rfl)) ?_
        refine all [3] (by kernel_rfl) (by decide) (.cons rfl ?_ .nil)
        refine (callv en36 (.cons (.t rfl) .nil) (fun w I => at_ok _ w) ?_)
        refine heldN_of (by repeat first | exact sR | exact sN | apply sC | apply sS | apply sA) ?_
        refine all [6] (by kernel_rfl) (by decide) (.cons rfl ?_ .nil)
        refine (callv en37 (.cons (.t rfl) (.cons (.t rfl) .nil)) (fun w I => sum16_ok _ _ _ w (isSl_own (by repeat first | exact mH | apply mT | apply mA) w I) (by omega)) ?_)
        refine heldN_of (by repeat first | exact sR | exact sN | apply sC | apply sS | apply sA) ?_
        refine all [7] (by kernel_rfl) (by decide) (.cons rfl ?_ .nil)
        refine (callw (E := u8E) (xs := bodyB h d 0) (T := 5) (by repeat first | exact Upd.head | apply Upd.tail | apply Upd.right) en35 (.cons (.t rfl) (.cons (.t rfl) (.cons (.t rfl) .nil))) (fun w I => lay_ok _ (bodyB h d 0) _ _ w (by omega) (I.own (OwnS _ u8E (bodyB h d 0) 5) (by repeat first | exact mH | apply mT | apply mA)).1 (fun b hb => ((I.own (OwnS _ u8E (bodyB h d 0) 5) (by repeat first | exact mH | apply mT | apply mA)).2 b hb).2)) ?_)
        refine heldN_of (by repeat first | exact sR | exact sN | apply sC | apply sS | apply sA) ?_
        refine over (by kernel_rfl) ?_
        refine pN ?_
        refine meet (X := OV × (List UInt8)) (_, _) ?_ (by repeat first | exact Sub.nil | refine Sub.cons rfl ?_) (by repeat first | exact sR | exact sN | apply sC | apply sS | apply sA)
        · try dsimp only
          unfold restB
          first
            | exact (if_neg (by omega)).symm
            | exact (if_pos (by omega)).symm
      · try simp only [Bool.and_eq_true, Bool.or_eq_true, Bool.or_eq_false_iff, Bool.and_eq_false_iff, Bool.not_eq_true', Bool.not_eq_false', decide_eq_true_eq, decide_eq_false_iff_not, Decidable.not_not] at hm
        refine skip ?_
        refine pN ?_
        refine meet (X := OV × (List UInt8)) (_, _) ?_ (by repeat first | exact Sub.nil | refine Sub.cons rfl ?_) (by repeat first | exact sR | exact sN | apply sC | apply sS | apply sA)
        · try dsimp only
          unfold restB
          first
            | exact (if_neg (by omega)).symm
            | exact (if_pos (by omega)).symm
    obtain ⟨o, xs⟩ := x
    have hxs : xs = restB h d := hx
    clear hx
    show Sat _ _ [(1, true, .pointer (some ⟨b1, 0, none⟩)), (5, true, o.v)] [OwnS o.v u8E xs 5, Var b1 eHeader h 29]
    subst hxs
    have hhl := headB_le h (restB h d).length
    refine seq ?_
    refine region ?_
    refine cons (opv (Ev.load (xv := h) ty29 (.t rfl) (ptsVar (by repeat first | exact mH | apply mT | apply mA) (Lens.id _))) ?_)
    refine cons (opv (Ev.move (.t rfl)) ?_)
    refine cons (opv (Ev.len Try.underlying27 (.t rfl) (by first | exact isSl_own (by repeat first | exact mH | apply mT | apply mA) | exact fun w I => IsSl.keep0 (by assumption) I.keeps)) ?_)
    refine cons (callo en38 (.cons (.t rfl) (.cons (.t rfl) .nil)) (fun w I => head_ok _ _ w (by omega)) (fun v3 => ?_))
    refine cons (opv (Ev.move (.t rfl)) ?_)
    refine cons (append (E := u8E) Try.underlying27 ty5 rfl zb5 zs5 (.t rfl) (.t rfl) (fun _ => by repeat first | exact Upd.head | apply Upd.tail | apply Upd.right) (by first | exact isSl_own (by repeat first | exact mH | apply mT | apply mA) | exact fun w I => IsSl.keep0 (by assumption) I.keeps) (⟨by (show _ ≤ 9223372036854775807); first | omega | (simp; done) | (simp; omega), by first | omega | (simp; done) | (simp; omega)⟩) (fun v4 => ?_))
    refine cons (opv (Ev.assign (.t rfl)) ?_)
    refine cons (opv (Ev.assign (.c (v := I 0) rfl)) ?_)
    refine nil ?_
    refine pN ?_
    refine ret ?_
    refine done rfl (.tmp rfl (.tmp rfl .nil)) (fun w I => ?_)
    exact retN _ (fun hn => absurd hok hn) (by rw [hok]; rfl) (by rw [if_pos hok]; exact List.cons_sublist_cons.2 (List.nil_sublist _)) w I
end Go.Proofs.Ytegcihhhighipaa
