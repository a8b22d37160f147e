/- packet -/
import Derived.Test.YtegcihhhighipaaP4
set_option linter.unusedVariables false
set_option linter.unusedSimpArgs false
namespace Go.Proofs.Ytegcihhhighipaa
open Go Go.Gx

/-- What is summed besides. -/
def pseudoB (h : SHeader) (n : Int) : List UInt8 := bif h.src.v6 then putB 4 (UInt32.ofInt n).toUInt64 ++ [0, 0, 0, h.proto] else [0, h.proto] ++ putB 2 (UInt16.ofInt n).toUInt64
/-- The sum of TCP or UDP. -/
def sumH (h : SHeader) (b : List UInt8) : UInt16 :=
  if sumB (addrB h.src ++ addrB h.dst ++ pseudoB h b.length ++ b) = 0 ∧ h.proto = 17 then 65535 else sumB (addrB h.src ++ addrB h.dst ++ pseudoB h b.length ++ b)

theorem en56 : Enters Try.prog 56 := Enters.mk' (by kernel_rfl)

theorem z27 : (Try.prog.info? 27).bind (·.zero) = some ((ovE nilSl).val (ovE nilSl).zero) := by kernel_rfl

theorem en55 : Enters Try.prog 55 := Enters.mk' (by kernel_rfl)

theorem sum16_ok (h : SHeader) (v : Value) (b : List UInt8) (w : World) (hb : IsSl u8E w v b) (hl : b.length ≤ 4096) : Calls Try.prog 37 #[eHeader.val h, v] w (RetV w (U16 (sumH h b))) := by
  obtain ⟨o, rfl⟩ : ∃ o : OV, o.v = v := ⟨⟨v, hb.one⟩, rfl⟩
  refine enter0 43 Try.func37 rfl rfl (Nat.le_of_ble_eq_true rfl) ?_
  refine seq ?_
  refine region ?_
  refine cons (box (E := eHeader) (.t rfl) (fun b1 => ?_))
  refine cons (opv (Ev.assign (.c (v := U16 0) rfl)) ?_)
  refine nil ?_
  refine pN ?_
  refine seq ?_
  refine region ?_
  refine cons (opv (Ev.fieldAddr (o := 34) (.t rfl) (by kernel_rfl)) ?_)
  refine cons (opv (Ev.load (xv := h.proto) ty5 (.t rfl) (ptsVar (by repeat first | exact mH | apply mT | apply mA) SHeader.l_proto)) ?_)
  refine cons (buildSlice (E := u8E) Try.underlying27 ty5 z5 (.cons (.c (v := U8 0) rfl) (.cons (.t rfl) .nil)) rfl rfl (fun v2 => ?_))
  refine cons (opv (Ev.move (.t rfl)) ?_)
  refine cons (opv (Ev.len Try.underlying27 (.t rfl) (by first | exact isSl_own (by repeat first | exact mH | apply mT | apply mA) | exact fun w I => IsSl.keep0 (by assumption) I.keeps)) ?_)
  refine cons (opv (Ev.conv_i_u16 Try.underlying25 Try.underlying3 (.t rfl)) ?_)
  refine cons (callo en53 (.cons (.t rfl) (.cons (.t rfl) .nil)) (fun w I => put_uint16_ok _ _ _ w (by first | exact isSl_own (by repeat first | exact mH | apply mT | apply mA) w I | exact IsSl.keep0 (by assumption) I.keeps) (by first | assumption | omega | (simp [putB_length]; done) | (simp [putB_length]; omega))) (fun v3 => ?_))
  refine cons (opv (Ev.assign (.t rfl)) ?_)
  refine nil ?_
  refine pN ?_
  refine seq ?_
  refine seq ?_
  refine region ?_
  refine cons (opv (Ev.fieldAddr (o := 0) (.t rfl) (by kernel_rfl)) ?_)
  refine cons (opv (Ev.fieldAddr (o := 0) (.t rfl) (by kernel_rfl)) ?_)
  refine cons (opv (Ev.load (xv := h.src.v6) ty4 (.t rfl) (ptsVar (by repeat first | exact mH | apply mT | apply mA) (Lens.comp SHeader.l_src SAddr.l_v6))) ?_)
  refine nil ?_
  refine pN ?_
  first | refine condD rfl (fun h0 => ?_) (fun h0 => ?_) | refine cond rfl (fun h0 => ?_) (fun h0 => ?_)
  · try simp only [Bool.and_eq_true, Bool.or_eq_true, Bool.or_eq_false_iff, Bool.and_eq_false_iff, Bool.not_eq_true', Bool.not_eq_false', decide_eq_true_eq, decide_eq_false_iff_not, Decidable.not_not] at h0
    refine draw' (by kernel_rfl) ?_
    refine take 0 rfl (by kernel_rfl) (by kernel_rfl) (by kernel_rfl) (by repeat first | exact sR | exact sN | apply sC | apply sS | apply sA) (Ev.move (.t rfl)) ?_
    refine take 1 rfl (by kernel_rfl) (by kernel_rfl) (by kernel_rfl) (by repeat first | exact sR | exact sN | apply sC | apply sS | apply sA) (Ev.len Try.underlying27 (.t rfl) (by first | exact isSl_own (by repeat first | exact mH | apply mT | apply mA) | exact fun w I => IsSl.keep0 (by assumption) I.keeps)) ?_
    refine take 2 rfl (by kernel_rfl) (by kernel_rfl) (by kernel_rfl) (by repeat first | exact sR | exact sN | apply sC | apply sS | apply sA) (Ev.conv_i_u32 Try.underlying26 Try.underlying3 (.t rfl)) ?_
    refine take 4 rfl (by kernel_rfl) (by kernel_rfl) (by kernel_rfl) (by repeat first | exact sR | exact sN | apply sC | apply sS | apply sA) (Ev.fieldAddr (o := 34) (.t rfl) (by kernel_rfl)) ?_
    refine take 5 rfl (by kernel_rfl) (by kernel_rfl) (by kernel_rfl) (by repeat first | exact sR | exact sN | apply sC | apply sS | apply sA) (Ev.load (xv := h.proto) ty5 (.t rfl) (ptsVar (by repeat first | exact mH | apply mT | apply mA) SHeader.l_proto)) ?_
    refine all [3, 6] (by kernel_rfl) (by decide) (.cons rfl ?_ (.cons rfl ?_ .nil))
    · refine (callo en54 (.cons (.c (v := (Go.Value.slice none 0 0)) rfl) (.cons (.t rfl) .nil)) (fun w I => put_uint32_ok _ _ _ w (IsSl.nil _ w) (by first | assumption | omega | (simp [putB_length]; done) | (simp [putB_length]; omega))) (fun v4 => ?_))
      refine heldN_of (by repeat first | exact sR | exact sN | apply sC | apply sS | apply sA) ?_
      refine all [6] (by kernel_rfl) (by decide) (.cons rfl ?_ .nil)
      refine (buildSlice (E := u8E) Try.underlying27 ty5 z5 (.cons (.c (v := U8 0) rfl) (.cons (.c (v := U8 0) rfl) (.cons (.c (v := U8 0) rfl) (.cons (.t rfl) .nil)))) rfl rfl (fun v5 => ?_))
      refine heldN_of (by repeat first | exact sR | exact sN | apply sC | apply sS | apply sA) ?_
      refine all [7] (by kernel_rfl) (by decide) (.cons rfl ?_ .nil)
      refine (append (E := u8E) Try.underlying27 ty5 rfl zb5 zs5 (.t rfl) (.t rfl) (fun _ => by repeat first | exact Upd.head | apply Upd.tail | apply Upd.right) (by first | exact isSl_own (by repeat first | exact mH | apply mT | apply mA) | exact fun w I => IsSl.keep0 (by assumption) I.keeps) (⟨by (show _ ≤ 9223372036854775807); first | omega | (simp; done) | (simp; omega), by first | omega | (simp; done) | (simp; omega)⟩) (fun v6 => ?_))
      refine heldN_of (by repeat first | exact sR | exact sN | apply sC | apply sS | apply sA) ?_
      refine take 8 rfl (by kernel_rfl) (by kernel_rfl) (by kernel_rfl) (by repeat first | exact sR | exact sN | apply sC | apply sS | apply sA) (Ev.assign (.t rfl)) ?_
      refine over (by kernel_rfl) ?_
      refine pN ?_
      refine seq ?_
      refine draw' (by kernel_rfl) ?_
      refine take 0 rfl (by kernel_rfl) (by kernel_rfl) (by kernel_rfl) (by repeat first | exact sR | exact sN | apply sC | apply sS | apply sA) (Ev.fieldAddr (o := 0) (.t rfl) (by kernel_rfl)) ?_
      refine take 1 rfl (by kernel_rfl) (by kernel_rfl) (by kernel_rfl) (by repeat first | exact sR | exact sN | apply sC | apply sS | apply sA) (Ev.load (xv := h.src) ty24 (.t rfl) (ptsVar (by repeat first | exact mH | apply mT | apply mA) SHeader.l_src)) ?_
      refine take 3 rfl (by kernel_rfl) (by kernel_rfl) (by kernel_rfl) (by repeat first | exact sR | exact sN | apply sC | apply sS | apply sA) (Ev.fieldAddr (o := 17) (.t rfl) (by kernel_rfl)) ?_
      refine take 4 rfl (by kernel_rfl) (by kernel_rfl) (by kernel_rfl) (by repeat first | exact sR | exact sN | apply sC | apply sS | apply sA) (Ev.load (xv := h.dst) ty24 (.t rfl) (ptsVar (by repeat first | exact mH | apply mT | apply mA) SHeader.l_dst)) ?_
      refine take 6 rfl (by kernel_rfl) (by kernel_rfl) (by kernel_rfl) (by repeat first | exact sR | exact sN | apply sC | apply sS | apply sA) (Ev.move (.t rfl)) ?_
      refine take 7 rfl (by kernel_rfl) (by kernel_rfl) (by kernel_rfl) (by repeat first | exact sR | exact sN | apply sC | apply sS | apply sA) (Ev.move (.t rfl)) ?_
      refine all [2] (by kernel_rfl) (by decide) (.cons rfl ?_ .nil)
      refine (calln (X := Nat) (fun _ => True) (fun b => (adO b h.src).v) (fun b => [Var b eAddr h.src 24]) en56 (.cons (.t rfl) .nil) (fun w I => address_ok _ w) (fun n1 _ => ?_))
      refine heldN_of (by repeat first | exact sR | exact sN | apply sC | apply sS | apply sA) ?_
      refine all [5] (by kernel_rfl) (by decide) (.cons rfl ?_ .nil)
      refine (calln (X := Nat) (fun _ => True) (fun b => (adO b h.dst).v) (fun b => [Var b eAddr h.dst 24]) en56 (.cons (.t rfl) .nil) (fun w I => address_ok _ w) (fun n2 _ => ?_))
      refine heldN_of (by repeat first | exact sR | exact sN | apply sC | apply sS | apply sA) ?_
      refine all [8] (by kernel_rfl) (by decide) (.cons rfl ?_ .nil)
      refine (buildSlice (E := (ovE nilSl)) Try.underlying79 ty27 z27 (.cons (.t rfl) (.cons (.t rfl) (.cons (.t rfl) (.cons (.t rfl) .nil)))) rfl rfl (fun v7 => ?_))
      refine heldN_of (by repeat first | exact sR | exact sN | apply sC | apply sS | apply sA) ?_
      refine all [9] (by kernel_rfl) (by decide) (.cons rfl ?_ .nil)
      refine (callv en55 (.cons (.t rfl) .nil) (fun w I => sum_ok _ _ w (IsSS.mk' (isSl_own (by repeat first | exact mH | apply mT | apply mA) w I) (.cons (isSl_ad (by repeat first | exact mH | apply mT | apply mA) w I) (.cons (isSl_ad (by repeat first | exact mH | apply mT | apply mA) w I) (.cons (isSl_own (by repeat first | exact mH | apply mT | apply mA) w I) (.cons (hb.keep0 I.keeps) .nil)))))) ?_)
      refine heldN_of (by repeat first | exact sR | exact sN | apply sC | apply sS | apply sA) ?_
      refine take 10 rfl (by kernel_rfl) (by kernel_rfl) (by kernel_rfl) (by repeat first | exact sR | exact sN | apply sC | apply sS | apply sA) (Ev.assign (.t rfl)) ?_
      refine over (by kernel_rfl) ?_
      refine pN ?_
      refine seq ?_
      refine seq ?_
      refine region ?_
      refine cons (opv (Ev.move (.t rfl)) ?_)
      refine cons (opv (Ev.eql_u16 (.t rfl) (.c (v := U16 0) rfl)) ?_)
      refine cons (opv (Ev.move (.t rfl)) ?_)
      refine cons (opg rfl rfl (Ev.fieldAddr (o := 34) (.t rfl) (by kernel_rfl)) ?_)
      refine cons (opg rfl rfl (Ev.load (xv := h.proto) ty5 (.g rfl id) (ptsVar (by repeat first | exact mH | apply mT | apply mA) SHeader.l_proto)) ?_)
      refine cons (opg rfl rfl (Ev.eql_u8 (.g rfl id) (.c (v := U8 17) rfl)) ?_)
      refine cons (opv (Ev.pickA (.t rfl) (fun {_} h => by cases h; rfl) ⟨_, rfl⟩ (by intro h1 h; first | (rw [h] <;> rfl) | (rw [h1, h] <;> rfl) | (rw [h, h1] <;> rfl) | simp_all) (.c (v := .bool false) rfl)) ?_)
      refine nil ?_
      refine pN ?_
      first | refine condD rfl (fun h1 => ?_) (fun h1 => ?_) | refine cond rfl (fun h1 => ?_) (fun h1 => ?_)
      · try simp only [Bool.and_eq_true, Bool.or_eq_true, Bool.or_eq_false_iff, Bool.and_eq_false_iff, Bool.not_eq_true', Bool.not_eq_false', decide_eq_true_eq, decide_eq_false_iff_not, Decidable.not_not] at h1
        refine seq ?_
        refine region ?_
        refine cons (opv (Ev.assign (.c (v := U16 65535) rfl)) ?_)
        refine nil ?_
        refine pN ?_
        refine ret ?_
        refine pR ?_
        refine done rfl (.tmp rfl .nil) (retE ?_)
        unfold sumH pseudoB
        rw [h0]
        simp only [cond_true, cond_false]
        have hs : ∀ x y : UInt16, (x = 0 ∧ h.proto = 17 → y = 65535) → (¬ (x = 0 ∧ h.proto = 17) → y = x) → y = if x = 0 ∧ h.proto = 17 then 65535 else x := fun x y p q => by split <;> simp_all
        refine congrArg U16 (hs _ _ (fun e => ?_) (fun e => ?_))
        · first
            | rfl
            | (exfalso
               simp only [List.append_assoc, List.cons_append, List.nil_append, List.flatten_cons, List.flatten_nil, List.append_nil] at e h1
               rcases h1 with h | h
               · exact h e.1
               · exact h e.2)
        · first
            | (exfalso
               exact e (by simpa using h1))
            | (simp; done)
      · try simp only [Bool.and_eq_true, Bool.or_eq_true, Bool.or_eq_false_iff, Bool.and_eq_false_iff, Bool.not_eq_true', Bool.not_eq_false', decide_eq_true_eq, decide_eq_false_iff_not, Decidable.not_not] at h1
        refine skip ?_
        refine pN ?_
        refine seq ?_
        refine region ?_
        refine cons (opv (Ev.move (.t rfl)) ?_)
        refine cons (opv (Ev.assign (.t rfl)) ?_)
        refine nil ?_
        refine pN ?_
        refine ret ?_
        refine done rfl (.tmp rfl .nil) (retE ?_)
        unfold sumH pseudoB
        rw [h0]
        simp only [cond_true, cond_false]
        have hs : ∀ x y : UInt16, (x = 0 ∧ h.proto = 17 → y = 65535) → (¬ (x = 0 ∧ h.proto = 17) → y = x) → y = if x = 0 ∧ h.proto = 17 then 65535 else x := fun x y p q => by split <;> simp_all
        refine congrArg U16 (hs _ _ (fun e => ?_) (fun e => ?_))
        · first
            | rfl
            | (exfalso
               simp only [List.append_assoc, List.cons_append, List.nil_append, List.flatten_cons, List.flatten_nil, List.append_nil] at e h1
               rcases h1 with h | h
               · exact h e.1
               · exact h e.2)
        · first
            | (exfalso
               exact e (by simpa using h1))
            | (simp; done)
    · refine (buildSlice (E := u8E) Try.underlying27 ty5 z5 (.cons (.c (v := U8 0) rfl) (.cons (.c (v := U8 0) rfl) (.cons (.c (v := U8 0) rfl) (.cons (.t rfl) .nil)))) rfl rfl (fun v8 => ?_))
      refine heldN_of (by repeat first | exact sR | exact sN | apply sC | apply sS | apply sA) ?_
      refine all [3] (by kernel_rfl) (by decide) (.cons rfl ?_ .nil)
      refine (callo en54 (.cons (.c (v := (Go.Value.slice none 0 0)) rfl) (.cons (.t rfl) .nil)) (fun w I => put_uint32_ok _ _ _ w (IsSl.nil _ w) (by first | assumption | omega | (simp [putB_length]; done) | (simp [putB_length]; omega))) (fun v9 => ?_))
      refine heldN_of (by repeat first | exact sR | exact sN | apply sC | apply sS | apply sA) ?_
      refine all [7] (by kernel_rfl) (by decide) (.cons rfl ?_ .nil)
      refine (append (E := u8E) Try.underlying27 ty5 rfl zb5 zs5 (.t rfl) (.t rfl) (fun _ => by repeat first | exact Upd.head | apply Upd.tail | apply Upd.right) (by first | exact isSl_own (by repeat first | exact mH | apply mT | apply mA) | exact fun w I => IsSl.keep0 (by assumption) I.keeps) (⟨by (show _ ≤ 9223372036854775807); first | omega | (simp; done) | (simp; omega), by first | omega | (simp; done) | (simp; omega)⟩) (fun v10 => ?_))
      refine heldN_of (by repeat first | exact sR | exact sN | apply sC | apply sS | apply sA) ?_
      refine take 8 rfl (by kernel_rfl) (by kernel_rfl) (by kernel_rfl) (by repeat first | exact sR | exact sN | apply sC | apply sS | apply sA) (Ev.assign (.t rfl)) ?_
      refine over (by kernel_rfl) ?_
      refine pN ?_
      refine seq ?_
      refine draw' (by kernel_rfl) ?_
      refine take 0 rfl (by kernel_rfl) (by kernel_rfl) (by kernel_rfl) (by repeat first | exact sR | exact sN | apply sC | apply sS | apply sA) (Ev.fieldAddr (o := 0) (.t rfl) (by kernel_rfl)) ?_
      refine take 1 rfl (by kernel_rfl) (by kernel_rfl) (by kernel_rfl) (by repeat first | exact sR | exact sN | apply sC | apply sS | apply sA) (Ev.load (xv := h.src) ty24 (.t rfl) (ptsVar (by repeat first | exact mH | apply mT | apply mA) SHeader.l_src)) ?_
      refine take 3 rfl (by kernel_rfl) (by kernel_rfl) (by kernel_rfl) (by repeat first | exact sR | exact sN | apply sC | apply sS | apply sA) (Ev.fieldAddr (o := 17) (.t rfl) (by kernel_rfl)) ?_
      refine take 4 rfl (by kernel_rfl) (by kernel_rfl) (by kernel_rfl) (by repeat first | exact sR | exact sN | apply sC | apply sS | apply sA) (Ev.load (xv := h.dst) ty24 (.t rfl) (ptsVar (by repeat first | exact mH | apply mT | apply mA) SHeader.l_dst)) ?_
      refine take 6 rfl (by kernel_rfl) (by kernel_rfl) (by kernel_rfl) (by repeat first | exact sR | exact sN | apply sC | apply sS | apply sA) (Ev.move (.t rfl)) ?_
      refine take 7 rfl (by kernel_rfl) (by kernel_rfl) (by kernel_rfl) (by repeat first | exact sR | exact sN | apply sC | apply sS | apply sA) (Ev.move (.t rfl)) ?_
      refine all [2] (by kernel_rfl) (by decide) (.cons rfl ?_ .nil)
      refine (calln (X := Nat) (fun _ => True) (fun b => (adO b h.src).v) (fun b => [Var b eAddr h.src 24]) en56 (.cons (.t rfl) .nil) (fun w I => address_ok _ w) (fun n1 _ => ?_))
      refine heldN_of (by repeat first | exact sR | exact sN | apply sC | apply sS | apply sA) ?_
      refine all [5] (by kernel_rfl) (by decide) (.cons rfl ?_ .nil)
      refine (calln (X := Nat) (fun _ => True) (fun b => (adO b h.dst).v) (fun b => [Var b eAddr h.dst 24]) en56 (.cons (.t rfl) .nil) (fun w I => address_ok _ w) (fun n2 _ => ?_))
      refine heldN_of (by repeat first | exact sR | exact sN | apply sC | apply sS | apply sA) ?_
      refine all [8] (by kernel_rfl) (by decide) (.cons rfl ?_ .nil)
      refine (buildSlice (E := (ovE nilSl)) Try.underlying79 ty27 z27 (.cons (.t rfl) (.cons (.t rfl) (.cons (.t rfl) (.cons (.t rfl) .nil)))) rfl rfl (fun v11 => ?_))
      refine heldN_of (by repeat first | exact sR | exact sN | apply sC | apply sS | apply sA) ?_
      refine all [9] (by kernel_rfl) (by decide) (.cons rfl ?_ .nil)
      refine (callv en55 (.cons (.t rfl) .nil) (fun w I => sum_ok _ _ w (IsSS.mk' (isSl_own (by repeat first | exact mH | apply mT | apply mA) w I) (.cons (isSl_ad (by repeat first | exact mH | apply mT | apply mA) w I) (.cons (isSl_ad (by repeat first | exact mH | apply mT | apply mA) w I) (.cons (isSl_own (by repeat first | exact mH | apply mT | apply mA) w I) (.cons (hb.keep0 I.keeps) .nil)))))) ?_)
      refine heldN_of (by repeat first | exact sR | exact sN | apply sC | apply sS | apply sA) ?_
      refine take 10 rfl (by kernel_rfl) (by kernel_rfl) (by kernel_rfl) (by repeat first | exact sR | exact sN | apply sC | apply sS | apply sA) (Ev.assign (.t rfl)) ?_
      refine over (by kernel_rfl) ?_
      refine pN ?_
      refine seq ?_
      refine seq ?_
      refine region ?_
      refine cons (opv (Ev.move (.t rfl)) ?_)
      refine cons (opv (Ev.eql_u16 (.t rfl) (.c (v := U16 0) rfl)) ?_)
      refine cons (opv (Ev.move (.t rfl)) ?_)
      refine cons (opg rfl rfl (Ev.fieldAddr (o := 34) (.t rfl) (by kernel_rfl)) ?_)
      refine cons (opg rfl rfl (Ev.load (xv := h.proto) ty5 (.g rfl id) (ptsVar (by repeat first | exact mH | apply mT | apply mA) SHeader.l_proto)) ?_)
      refine cons (opg rfl rfl (Ev.eql_u8 (.g rfl id) (.c (v := U8 17) rfl)) ?_)
      refine cons (opv (Ev.pickA (.t rfl) (fun {_} h => by cases h; rfl) ⟨_, rfl⟩ (by intro h1 h; first | (rw [h] <;> rfl) | (rw [h1, h] <;> rfl) | (rw [h, h1] <;> rfl) | simp_all) (.c (v := .bool false) rfl)) ?_)
      refine nil ?_
      refine pN ?_
      first | refine condD rfl (fun h1 => ?_) (fun h1 => ?_) | refine cond rfl (fun h1 => ?_) (fun h1 => ?_)
      · try simp only [Bool.and_eq_true, Bool.or_eq_true, Bool.or_eq_false_iff, Bool.and_eq_false_iff, Bool.not_eq_true', Bool.not_eq_false', decide_eq_true_eq, decide_eq_false_iff_not, Decidable.not_not] at h1
        refine seq ?_
        refine region ?_
        refine cons (opv (Ev.assign (.c (v := U16 65535) rfl)) ?_)
        refine nil ?_
        refine pN ?_
        refine ret ?_
        refine pR ?_
        refine done rfl (.tmp rfl .nil) (retE ?_)
        unfold sumH pseudoB
        rw [h0]
        simp only [cond_true, cond_false]
        have hs : ∀ x y : UInt16, (x = 0 ∧ h.proto = 17 → y = 65535) → (¬ (x = 0 ∧ h.proto = 17) → y = x) → y = if x = 0 ∧ h.proto = 17 then 65535 else x := fun x y p q => by split <;> simp_all
        refine congrArg U16 (hs _ _ (fun e => ?_) (fun e => ?_))
        · first
            | rfl
            | (exfalso
               simp only [List.append_assoc, List.cons_append, List.nil_append, List.flatten_cons, List.flatten_nil, List.append_nil] at e h1
               rcases h1 with h | h
               · exact h e.1
               · exact h e.2)
        · first
            | (exfalso
               exact e (by simpa using h1))
            | (simp; done)
      · try simp only [Bool.and_eq_true, Bool.or_eq_true, Bool.or_eq_false_iff, Bool.and_eq_false_iff, Bool.not_eq_true', Bool.not_eq_false', decide_eq_true_eq, decide_eq_false_iff_not, Decidable.not_not] at h1
        refine skip ?_
        refine pN ?_
        refine seq ?_
        refine region ?_
        refine cons (opv (Ev.move (.t rfl)) ?_)
        refine cons (opv (Ev.assign (.t rfl)) ?_)
        refine nil ?_
        refine pN ?_
        refine ret ?_
        refine done rfl (.tmp rfl .nil) (retE ?_)
        unfold sumH pseudoB
        rw [h0]
        simp only [cond_true, cond_false]
        have hs : ∀ x y : UInt16, (x = 0 ∧ h.proto = 17 → y = 65535) → (¬ (x = 0 ∧ h.proto = 17) → y = x) → y = if x = 0 ∧ h.proto = 17 then 65535 else x := fun x y p q => by split <;> simp_all
        refine congrArg U16 (hs _ _ (fun e => ?_) (fun e => ?_))
        · first
            | rfl
            | (exfalso
               simp only [List.append_assoc, List.cons_append, List.nil_append, List.flatten_cons, List.flatten_nil, List.append_nil] at e h1
               rcases h1 with h | h
               · exact h e.1
               · exact h e.2)
        · first
            | (exfalso
               exact e (by simpa using h1))
            | (simp; done)
  · try simp only [Bool.and_eq_true, Bool.or_eq_true, Bool.or_eq_false_iff, Bool.and_eq_false_iff, Bool.not_eq_true', Bool.not_eq_false', decide_eq_true_eq, decide_eq_false_iff_not, Decidable.not_not] at h0
    refine skip ?_
    refine pN ?_
    refine seq ?_
    refine draw' (by kernel_rfl) ?_
    refine take 0 rfl (by kernel_rfl) (by kernel_rfl) (by kernel_rfl) (by repeat first | exact sR | exact sN | apply sC | apply sS | apply sA) (Ev.fieldAddr (o := 0) (.t rfl) (by kernel_rfl)) ?_
    refine take 1 rfl (by kernel_rfl) (by kernel_rfl) (by kernel_rfl) (by repeat first | exact sR | exact sN | apply sC | apply sS | apply sA) (Ev.load (xv := h.src) ty24 (.t rfl) (ptsVar (by repeat first | exact mH | apply mT | apply mA) SHeader.l_src)) ?_
    refine take 3 rfl (by kernel_rfl) (by kernel_rfl) (by kernel_rfl) (by repeat first | exact sR | exact sN | apply sC | apply sS | apply sA) (Ev.fieldAddr (o := 17) (.t rfl) (by kernel_rfl)) ?_
    refine take 4 rfl (by kernel_rfl) (by kernel_rfl) (by kernel_rfl) (by repeat first | exact sR | exact sN | apply sC | apply sS | apply sA) (Ev.load (xv := h.dst) ty24 (.t rfl) (ptsVar (by repeat first | exact mH | apply mT | apply mA) SHeader.l_dst)) ?_
    refine take 6 rfl (by kernel_rfl) (by kernel_rfl) (by kernel_rfl) (by repeat first | exact sR | exact sN | apply sC | apply sS | apply sA) (Ev.move (.t rfl)) ?_
    refine take 7 rfl (by kernel_rfl) (by kernel_rfl) (by kernel_rfl) (by repeat first | exact sR | exact sN | apply sC | apply sS | apply sA) (Ev.move (.t rfl)) ?_
    refine all [2] (by kernel_rfl) (by decide) (.cons rfl ?_ .nil)
    refine (calln (X := Nat) (fun _ => True) (fun b => (adO b h.src).v) (fun b => [Var b eAddr h.src 24]) en56 (.cons (.t rfl) .nil) (fun w I => address_ok _ w) (fun n1 _ => ?_))
    refine heldN_of (by repeat first | exact sR | exact sN | apply sC | apply sS | apply sA) ?_
    refine all [5] (by kernel_rfl) (by decide) (.cons rfl ?_ .nil)
    refine (calln (X := Nat) (fun _ => True) (fun b => (adO b h.dst).v) (fun b => [Var b eAddr h.dst 24]) en56 (.cons (.t rfl) .nil) (fun w I => address_ok _ w) (fun n2 _ => ?_))
    refine heldN_of (by repeat first | exact sR | exact sN | apply sC | apply sS | apply sA) ?_
    refine all [8] (by kernel_rfl) (by decide) (.cons rfl ?_ .nil)
    refine (buildSlice (E := (ovE nilSl)) Try.underlying79 ty27 z27 (.cons (.t rfl) (.cons (.t rfl) (.cons (.t rfl) (.cons (.t rfl) .nil)))) rfl rfl (fun v12 => ?_))
    refine heldN_of (by repeat first | exact sR | exact sN | apply sC | apply sS | apply sA) ?_
    refine all [9] (by kernel_rfl) (by decide) (.cons rfl ?_ .nil)
    refine (callv en55 (.cons (.t rfl) .nil) (fun w I => sum_ok _ _ w (IsSS.mk' (isSl_own (by repeat first | exact mH | apply mT | apply mA) w I) (.cons (isSl_ad (by repeat first | exact mH | apply mT | apply mA) w I) (.cons (isSl_ad (by repeat first | exact mH | apply mT | apply mA) w I) (.cons (isSl_own (by repeat first | exact mH | apply mT | apply mA) w I) (.cons (hb.keep0 I.keeps) .nil)))))) ?_)
    refine heldN_of (by repeat first | exact sR | exact sN | apply sC | apply sS | apply sA) ?_
    refine take 10 rfl (by kernel_rfl) (by kernel_rfl) (by kernel_rfl) (by repeat first | exact sR | exact sN | apply sC | apply sS | apply sA) (Ev.assign (.t rfl)) ?_
    refine over (by kernel_rfl) ?_
    refine pN ?_
    refine seq ?_
    refine seq ?_
    refine region ?_
    refine cons (opv (Ev.move (.t rfl)) ?_)
    refine cons (opv (Ev.eql_u16 (.t rfl) (.c (v := U16 0) rfl)) ?_)
    refine cons (opv (Ev.move (.t rfl)) ?_)
    refine cons (opg rfl rfl (Ev.fieldAddr (o := 34) (.t rfl) (by kernel_rfl)) ?_)
    refine cons (opg rfl rfl (Ev.load (xv := h.proto) ty5 (.g rfl id) (ptsVar (by repeat first | exact mH | apply mT | apply mA) SHeader.l_proto)) ?_)
    refine cons (opg rfl rfl (Ev.eql_u8 (.g rfl id) (.c (v := U8 17) rfl)) ?_)
    refine cons (opv (Ev.pickA (.t rfl) (fun {_} h => by cases h; rfl) ⟨_, rfl⟩ (by intro h1 h; first | (rw [h] <;> rfl) | (rw [h1, h] <;> rfl) | (rw [h, h1] <;> rfl) | simp_all) (.c (v := .bool false) rfl)) ?_)
    refine nil ?_
    refine pN ?_
    first | refine condD rfl (fun h1 => ?_) (fun h1 => ?_) | refine cond rfl (fun h1 => ?_) (fun h1 => ?_)
    · try simp only [Bool.and_eq_true, Bool.or_eq_true, Bool.or_eq_false_iff, Bool.and_eq_false_iff, Bool.not_eq_true', Bool.not_eq_false', decide_eq_true_eq, decide_eq_false_iff_not, Decidable.not_not] at h1
      refine seq ?_
      refine region ?_
      refine cons (opv (Ev.assign (.c (v := U16 65535) rfl)) ?_)
      refine nil ?_
      refine pN ?_
      refine ret ?_
      refine pR ?_
      refine done rfl (.tmp rfl .nil) (retE ?_)
      unfold sumH pseudoB
      rw [h0]
      simp only [cond_true, cond_false]
      have hs : ∀ x y : UInt16, (x = 0 ∧ h.proto = 17 → y = 65535) → (¬ (x = 0 ∧ h.proto = 17) → y = x) → y = if x = 0 ∧ h.proto = 17 then 65535 else x := fun x y p q => by split <;> simp_all
      refine congrArg U16 (hs _ _ (fun e => ?_) (fun e => ?_))
      · first
          | rfl
          | (exfalso
             simp only [List.append_assoc, List.cons_append, List.nil_append, List.flatten_cons, List.flatten_nil, List.append_nil] at e h1
             rcases h1 with h | h
             · exact h e.1
             · exact h e.2)
      · first
          | (exfalso
             exact e (by simpa using h1))
          | (simp; done)
    · try simp only [Bool.and_eq_true, Bool.or_eq_true, Bool.or_eq_false_iff, Bool.and_eq_false_iff, Bool.not_eq_true', Bool.not_eq_false', decide_eq_true_eq, decide_eq_false_iff_not, Decidable.not_not] at h1
      refine skip ?_
      refine pN ?_
      refine seq ?_
      refine region ?_
      refine cons (opv (Ev.move (.t rfl)) ?_)
      refine cons (opv (Ev.assign (.t rfl)) ?_)
      refine nil ?_
      refine pN ?_
      refine ret ?_
      refine done rfl (.tmp rfl .nil) (retE ?_)
      unfold sumH pseudoB
      rw [h0]
      simp only [cond_true, cond_false]
      have hs : ∀ x y : UInt16, (x = 0 ∧ h.proto = 17 → y = 65535) → (¬ (x = 0 ∧ h.proto = 17) → y = x) → y = if x = 0 ∧ h.proto = 17 then 65535 else x := fun x y p q => by split <;> simp_all
      refine congrArg U16 (hs _ _ (fun e => ?_) (fun e => ?_))
      · first
          | rfl
          | (exfalso
             simp only [List.append_assoc, List.cons_append, List.nil_append, List.flatten_cons, List.flatten_nil, List.append_nil] at e h1
             rcases h1 with h | h
             · exact h e.1
             · exact h e.2)
      · first
          | (exfalso
             exact e (by simpa using h1))
          | (simp; done)
end Go.Proofs.Ytegcihhhighipaa
