/- packet -/
import Derived.Test.YtegcihhhighipaaP2
set_option linter.unusedVariables false
set_option linter.unusedSimpArgs false
namespace Go.Proofs.Ytegcihhhighipaa
open Go Go.Gx

attribute [simp] putB_length
/-- The slice of an address's bytes. -/
def adO (b : Nat) (a : SAddr) : OV := ⟨.slice (some ⟨b, 1, none⟩) (bif a.v6 then 16 else 4) 16, rfl⟩
theorem addrB_length (a : SAddr) : (addrB a).length = bif a.v6 then 16 else 4 := by unfold addrB; cases a.v6 <;> simp
theorem isSl_ad {K : Ctx} {L : List Res} {b : Nat} {a : SAddr} (hm : Var b eAddr a 24 ∈ L) (w : World) (h : WInv K L w) : IsSl u8E w (adO b a).v (addrB a) := by
  have h1 := isSl_arr (ptsVar hm SAddr.l_b w h) (by decide) (l := 0) (k := bif a.v6 then 16 else 4) (Nat.zero_le _) (by cases a.v6 <;> decide)
  unfold addrB
  show IsSl u8E w (.slice (some ⟨b, 1, none⟩) (bif a.v6 then 16 else 4) 16) _
  cases hv : a.v6 <;> rw [hv] at h1 <;> exact h1
/-- Middle and Data, with a sum. -/
def bodyB (h : SHeader) (d : List UInt8) (s : UInt16) : List UInt8 :=
  if h.proto = 6 then putB 2 h.srcPort.toUInt64 ++ putB 2 h.dstPort.toUInt64 ++ putB 4 h.seq.toUInt64 ++ [0, 0, 0, 0, 80, h.flags, 255, 255] ++ putB 2 s.toUInt64 ++ [0, 0] ++ d
  else if h.proto = 17 then putB 2 h.srcPort.toUInt64 ++ putB 2 h.dstPort.toUInt64 ++ putB 2 (UInt16.ofInt (8 + (d.length : Int))).toUInt64 ++ putB 2 s.toUInt64 ++ d
  else d

theorem address_ok (a : SAddr) (w : World) : Calls Try.prog 56 #[eAddr.val a] w (RetN w (fun _ : Nat => True) (fun b => (adO b a).v) (fun b => [Var b eAddr a 24])) := by
  refine enter0 9 Try.func56 rfl rfl (Nat.le_of_ble_eq_true rfl) ?_
  refine seq ?_
  refine region ?_
  refine cons (box (E := eAddr) (.t rfl) (fun b1 => ?_))
  refine cons (opv (Ev.assign (.c (v := (Go.Value.slice none 0 0)) rfl)) ?_)
  refine nil ?_
  refine pN ?_
  refine seq ?_
  refine seq ?_
  refine region ?_
  refine cons (opv (Ev.fieldAddr (o := 0) (.t rfl) (by kernel_rfl)) ?_)
  refine cons (opv (Ev.load (xv := a.v6) ty4 (.t rfl) (ptsVar (by repeat first | exact mH | apply mT | apply mA) SAddr.l_v6)) ?_)
  refine nil ?_
  refine pN ?_
  first | refine condD rfl (fun h0 => ?_) (fun h0 => ?_) | refine cond rfl (fun h0 => ?_) (fun h0 => ?_)
  · try simp only [Bool.and_eq_true, Bool.or_eq_true, Bool.or_eq_false_iff, Bool.and_eq_false_iff, Bool.not_eq_true', Bool.not_eq_false', decide_eq_true_eq, decide_eq_false_iff_not, Decidable.not_not] at h0
    refine seq ?_
    refine region ?_
    refine cons (opv (Ev.fieldAddr (o := 1) (.t rfl) (by kernel_rfl)) ?_)
    refine cons (opv (Ev.sliceArr (l := 0) (h := 16) Try.underlying22 ty5 (.t rfl) rfl rfl (fun _ => by decide)) ?_)
    refine cons (opv (Ev.assign (.t rfl)) ?_)
    refine nil ?_
    refine pN ?_
    refine ret ?_
    refine pR ?_
    refine done rfl (.tmp rfl .nil) (fun w I => ?_)
    exact retN b1 trivial (by unfold adO; rw [h0]; rfl) (by exact List.Sublist.refl _) w I
  · try simp only [Bool.and_eq_true, Bool.or_eq_true, Bool.or_eq_false_iff, Bool.and_eq_false_iff, Bool.not_eq_true', Bool.not_eq_false', decide_eq_true_eq, decide_eq_false_iff_not, Decidable.not_not] at h0
    refine skip ?_
    refine pN ?_
    refine seq ?_
    refine region ?_
    refine cons (opv (Ev.fieldAddr (o := 1) (.t rfl) (by kernel_rfl)) ?_)
    refine cons (opv (Ev.sliceArr (l := 0) (h := 4) Try.underlying22 ty5 (.t rfl) rfl (.c (v := I 4) rfl) (fun _ => by decide)) ?_)
    refine cons (opv (Ev.assign (.t rfl)) ?_)
    refine nil ?_
    refine pN ?_
    refine ret ?_
    refine done rfl (.tmp rfl .nil) (fun w I => ?_)
    exact retN b1 trivial (by unfold adO; rw [h0]; rfl) (by exact List.Sublist.refl _) w I

theorem en53 : Enters Try.prog 53 := Enters.mk' (by kernel_rfl)

theorem en54 : Enters Try.prog 54 := Enters.mk' (by kernel_rfl)

theorem behind_ok (h : SHeader) (d : List UInt8) (w : World) (hd : IsSl u8E w h.data.v d) (hl : d.length ≤ 4096) : Calls Try.prog 33 #[eHeader.val h] w (RetO w u8E (bodyB h d 0) 5) := by
  refine enter0 51 Try.func33 rfl rfl (Nat.le_of_ble_eq_true rfl) ?_
  refine seq ?_
  refine region ?_
  refine cons (box (E := eHeader) (.t rfl) (fun b1 => ?_))
  refine cons (opv (Ev.assign (.c (v := (Go.Value.slice none 0 0)) rfl)) ?_)
  refine nil ?_
  refine pN ?_
  refine seq ?_
  refine region ?_
  refine cons (opv (Ev.assign (.c (v := (Go.Value.slice none 0 0)) rfl)) ?_)
  refine takeNil u8E 5 ?_
  refine nil ?_
  refine pN ?_
  refine seq ?_
  refine seq ?_
  refine region ?_
  refine cons (opv (Ev.fieldAddr (o := 34) (.t rfl) (by kernel_rfl)) ?_)
  refine cons (opv (Ev.load (xv := h.proto) ty5 (.t rfl) (ptsVar (by repeat first | exact mH | apply mT | apply mA) SHeader.l_proto)) ?_)
  refine cons (callv en34 (.cons (.t rfl) .nil) (fun w I => middle_ok _ w) ?_)
  refine cons (opv (Ev.eql_i (.t rfl) (.c (v := I 0) rfl)) ?_)
  refine nil ?_
  refine pN ?_
  first | refine condD rfl (fun h0 => ?_) (fun h0 => ?_) | refine cond rfl (fun h0 => ?_) (fun h0 => ?_)
  · try simp only [Bool.and_eq_true, Bool.or_eq_true, Bool.or_eq_false_iff, Bool.and_eq_false_iff, Bool.not_eq_true', Bool.not_eq_false', decide_eq_true_eq, decide_eq_false_iff_not, Decidable.not_not] at h0
    refine seq ?_
    refine region ?_
    refine cons (opv (Ev.move (.t rfl)) ?_)
    refine cons (opv (Ev.fieldAddr (o := 42) (.t rfl) (by kernel_rfl)) ?_)
    refine cons (opv (Ev.load (xv := h.data) ty27 (.t rfl) (ptsVar (by repeat first | exact mH | apply mT | apply mA) SHeader.l_data)) ?_)
    refine cons (append (E := u8E) Try.underlying27 ty5 rfl zb5 zs5 (.t rfl) (.t rfl) (fun _ => by repeat first | exact Upd.head | apply Upd.tail | apply Upd.right) (fun w I => hd.keep0 I.keeps) (⟨by (show _ ≤ 9223372036854775807); first | omega | (simp; done) | (simp; omega), by first | omega | (simp; done) | (simp; omega)⟩) (fun v2 => ?_))
    refine cons (opv (Ev.assign (.t rfl)) ?_)
    refine nil ?_
    refine pN ?_
    refine ret ?_
    refine pR ?_
    refine done rfl (.tmp rfl .nil) (retOE (by repeat first | exact mH | apply mT | apply mA) ?_)
    have h6 : h.proto ≠ 6 := fun e => by rw [e] at h0; exact absurd h0 (by decide)
    have h17 : h.proto ≠ 17 := fun e => by rw [e] at h0; exact absurd h0 (by decide)
    unfold bodyB
    rw [if_neg h6, if_neg h17]; rfl
  · try simp only [Bool.and_eq_true, Bool.or_eq_true, Bool.or_eq_false_iff, Bool.and_eq_false_iff, Bool.not_eq_true', Bool.not_eq_false', decide_eq_true_eq, decide_eq_false_iff_not, Decidable.not_not] at h0
    refine skip ?_
    refine pN ?_
    refine seq ?_
    refine region ?_
    refine cons (opv (Ev.move (.t rfl)) ?_)
    refine cons (opv (Ev.fieldAddr (o := 35) (.t rfl) (by kernel_rfl)) ?_)
    refine cons (opv (Ev.load (xv := h.srcPort) ty25 (.t rfl) (ptsVar (by repeat first | exact mH | apply mT | apply mA) SHeader.l_srcPort)) ?_)
    refine cons (callo en53 (.cons (.t rfl) (.cons (.t rfl) .nil)) (fun w I => put_uint16_ok _ _ _ w (by first | exact isSl_own (by repeat first | exact mH | apply mT | apply mA) w I | exact IsSl.keep0 (by assumption) I.keeps) (by first | assumption | omega | (simp [putB_length]; done) | (simp [putB_length]; omega))) (fun v3 => ?_))
    refine cons (opv (Ev.assign (.t rfl)) ?_)
    refine nil ?_
    refine pN ?_
    refine seq ?_
    refine region ?_
    refine cons (opv (Ev.move (.t rfl)) ?_)
    refine cons (opv (Ev.fieldAddr (o := 36) (.t rfl) (by kernel_rfl)) ?_)
    refine cons (opv (Ev.load (xv := h.dstPort) ty25 (.t rfl) (ptsVar (by repeat first | exact mH | apply mT | apply mA) SHeader.l_dstPort)) ?_)
    refine cons (callo en53 (.cons (.t rfl) (.cons (.t rfl) .nil)) (fun w I => put_uint16_ok _ _ _ w (by first | exact isSl_own (by repeat first | exact mH | apply mT | apply mA) w I | exact IsSl.keep0 (by assumption) I.keeps) (by first | assumption | omega | (simp [putB_length]; done) | (simp [putB_length]; omega))) (fun v4 => ?_))
    refine cons (opv (Ev.assign (.t rfl)) ?_)
    refine nil ?_
    refine pN ?_
    refine seq ?_
    refine seq ?_
    refine region ?_
    refine cons (opv (Ev.fieldAddr (o := 34) (.t rfl) (by kernel_rfl)) ?_)
    refine cons (opv (Ev.load (xv := h.proto) ty5 (.t rfl) (ptsVar (by repeat first | exact mH | apply mT | apply mA) SHeader.l_proto)) ?_)
    refine cons (opv (Ev.eql_u8 (.t rfl) (.c (v := U8 6) rfl)) ?_)
    refine nil ?_
    refine pN ?_
    first | refine condD rfl (fun h1 => ?_) (fun h1 => ?_) | refine cond rfl (fun h1 => ?_) (fun h1 => ?_)
    · try simp only [Bool.and_eq_true, Bool.or_eq_true, Bool.or_eq_false_iff, Bool.and_eq_false_iff, Bool.not_eq_true', Bool.not_eq_false', decide_eq_true_eq, decide_eq_false_iff_not, Decidable.not_not] at h1
      refine seq ?_
      refine region ?_
      refine cons (opv (Ev.move (.t rfl)) ?_)
      refine cons (opv (Ev.fieldAddr (o := 41) (.t rfl) (by kernel_rfl)) ?_)
      refine cons (opv (Ev.load (xv := h.seq) ty26 (.t rfl) (ptsVar (by repeat first | exact mH | apply mT | apply mA) SHeader.l_seq)) ?_)
      refine cons (callo en54 (.cons (.t rfl) (.cons (.t rfl) .nil)) (fun w I => put_uint32_ok _ _ _ w (by first | exact isSl_own (by repeat first | exact mH | apply mT | apply mA) w I | exact IsSl.keep0 (by assumption) I.keeps) (by first | assumption | omega | (simp [putB_length]; done) | (simp [putB_length]; omega))) (fun v5 => ?_))
      refine cons (opv (Ev.assign (.t rfl)) ?_)
      refine nil ?_
      refine pN ?_
      refine seq ?_
      refine region ?_
      refine cons (opv (Ev.move (.t rfl)) ?_)
      refine cons (callo en54 (.cons (.t rfl) (.cons (.c (v := U32 0) rfl) .nil)) (fun w I => put_uint32_ok _ _ _ w (by first | exact isSl_own (by repeat first | exact mH | apply mT | apply mA) w I | exact IsSl.keep0 (by assumption) I.keeps) (by first | assumption | omega | (simp [putB_length]; done) | (simp [putB_length]; omega))) (fun v6 => ?_))
      refine cons (opv (Ev.assign (.t rfl)) ?_)
      refine nil ?_
      refine pN ?_
      refine seq ?_
      refine region ?_
      refine cons (opv (Ev.move (.t rfl)) ?_)
      refine cons (opv (Ev.fieldAddr (o := 40) (.t rfl) (by kernel_rfl)) ?_)
      refine cons (opv (Ev.load (xv := h.flags) ty5 (.t rfl) (ptsVar (by repeat first | exact mH | apply mT | apply mA) SHeader.l_flags)) ?_)
      refine cons (buildSlice (E := u8E) Try.underlying27 ty5 z5 (.cons (.c (v := U8 80) rfl) (.cons (.t rfl) .nil)) rfl rfl (fun v7 => ?_))
      refine cons (append (E := u8E) Try.underlying27 ty5 rfl zb5 zs5 (.t rfl) (.t rfl) (fun _ => by repeat first | exact Upd.head | apply Upd.tail | apply Upd.right) (by first | exact isSl_own (by repeat first | exact mH | apply mT | apply mA) | exact fun w I => IsSl.keep0 (by assumption) I.keeps) (⟨by (show _ ≤ 9223372036854775807); first | omega | (simp; done) | (simp; omega), by first | omega | (simp; done) | (simp; omega)⟩) (fun v8 => ?_))
      refine cons (opv (Ev.assign (.t rfl)) ?_)
      refine nil ?_
      refine pN ?_
      refine seq ?_
      refine region ?_
      refine cons (opv (Ev.move (.t rfl)) ?_)
      refine cons (callo en53 (.cons (.t rfl) (.cons (.c (v := U16 65535) rfl) .nil)) (fun w I => put_uint16_ok _ _ _ w (by first | exact isSl_own (by repeat first | exact mH | apply mT | apply mA) w I | exact IsSl.keep0 (by assumption) I.keeps) (by first | assumption | omega | (simp [putB_length]; done) | (simp [putB_length]; omega))) (fun v9 => ?_))
      refine cons (opv (Ev.assign (.t rfl)) ?_)
      refine nil ?_
      refine pN ?_
      refine region ?_
      refine cons (opv (Ev.move (.t rfl)) ?_)
      refine cons (callo en54 (.cons (.t rfl) (.cons (.c (v := U32 0) rfl) .nil)) (fun w I => put_uint32_ok _ _ _ w (by first | exact isSl_own (by repeat first | exact mH | apply mT | apply mA) w I | exact IsSl.keep0 (by assumption) I.keeps) (by first | assumption | omega | (simp [putB_length]; done) | (simp [putB_length]; omega))) (fun v10 => ?_))
      refine cons (opv (Ev.assign (.t rfl)) ?_)
      refine nil ?_
      refine pN ?_
      refine seq ?_
      refine region ?_
      refine cons (opv (Ev.move (.t rfl)) ?_)
      refine cons (opv (Ev.fieldAddr (o := 42) (.t rfl) (by kernel_rfl)) ?_)
      refine cons (opv (Ev.load (xv := h.data) ty27 (.t rfl) (ptsVar (by repeat first | exact mH | apply mT | apply mA) SHeader.l_data)) ?_)
      refine cons (append (E := u8E) Try.underlying27 ty5 rfl zb5 zs5 (.t rfl) (.t rfl) (fun _ => by repeat first | exact Upd.head | apply Upd.tail | apply Upd.right) (fun w I => hd.keep0 I.keeps) (⟨by (show _ ≤ 9223372036854775807); first | omega | (simp; done) | (simp; omega), by first | omega | (simp; done) | (simp; omega)⟩) (fun v11 => ?_))
      refine cons (opv (Ev.assign (.t rfl)) ?_)
      refine nil ?_
      refine pN ?_
      refine ret ?_
      refine done rfl (.tmp rfl .nil) (retOE (by repeat first | exact mH | apply mT | apply mA) ?_)
      by_cases h6 : h.proto = 6
      · first
          | (exfalso; simp_all; done)
          | (unfold bodyB
             rw [if_pos h6]
             simp only [List.nil_append, List.append_assoc]
             rfl)
      · first
          | (exfalso; simp_all; done)
          | (have h17 : h.proto = 17 := by
               by_cases e : h.proto = 17
               · exact e
               · exact absurd (by unfold midN; rw [if_neg h6, if_neg e]) h0
             unfold bodyB
             rw [if_neg h6, if_pos h17]
             simp only [List.nil_append, List.append_assoc])
    · try simp only [Bool.and_eq_true, Bool.or_eq_true, Bool.or_eq_false_iff, Bool.and_eq_false_iff, Bool.not_eq_true', Bool.not_eq_false', decide_eq_true_eq, decide_eq_false_iff_not, Decidable.not_not] at h1
      refine seq ?_
      refine region ?_
      refine cons (opv (Ev.move (.t rfl)) ?_)
      refine cons (opv (Ev.fieldAddr (o := 42) (.t rfl) (by kernel_rfl)) ?_)
      refine cons (opv (Ev.load (xv := h.data) ty27 (.t rfl) (ptsVar (by repeat first | exact mH | apply mT | apply mA) SHeader.l_data)) ?_)
      refine cons (opv (Ev.len Try.underlying27 (.t rfl) (fun w I => hd.keep0 I.keeps)) ?_)
      refine cons (opv (Ev.add_i (.c (v := I 8) rfl) (.t rfl) (fun _ => by omega)) ?_)
      refine cons (opv (Ev.conv_i_u16 Try.underlying25 Try.underlying3 (.t rfl)) ?_)
      refine cons (callo en53 (.cons (.t rfl) (.cons (.t rfl) .nil)) (fun w I => put_uint16_ok _ _ _ w (by first | exact isSl_own (by repeat first | exact mH | apply mT | apply mA) w I | exact IsSl.keep0 (by assumption) I.keeps) (by first | assumption | omega | (simp [putB_length]; done) | (simp [putB_length]; omega))) (fun v12 => ?_))
      refine cons (opv (Ev.assign (.t rfl)) ?_)
      refine nil ?_
      refine pN ?_
      refine region ?_
      refine cons (opv (Ev.move (.t rfl)) ?_)
      refine cons (callo en53 (.cons (.t rfl) (.cons (.c (v := U16 0) rfl) .nil)) (fun w I => put_uint16_ok _ _ _ w (by first | exact isSl_own (by repeat first | exact mH | apply mT | apply mA) w I | exact IsSl.keep0 (by assumption) I.keeps) (by first | assumption | omega | (simp [putB_length]; done) | (simp [putB_length]; omega))) (fun v13 => ?_))
      refine cons (opv (Ev.assign (.t rfl)) ?_)
      refine nil ?_
      refine pN ?_
      refine seq ?_
      refine region ?_
      refine cons (opv (Ev.move (.t rfl)) ?_)
      refine cons (opv (Ev.fieldAddr (o := 42) (.t rfl) (by kernel_rfl)) ?_)
      refine cons (opv (Ev.load (xv := h.data) ty27 (.t rfl) (ptsVar (by repeat first | exact mH | apply mT | apply mA) SHeader.l_data)) ?_)
      refine cons (append (E := u8E) Try.underlying27 ty5 rfl zb5 zs5 (.t rfl) (.t rfl) (fun _ => by repeat first | exact Upd.head | apply Upd.tail | apply Upd.right) (fun w I => hd.keep0 I.keeps) (⟨by (show _ ≤ 9223372036854775807); first | omega | (simp; done) | (simp; omega), by first | omega | (simp; done) | (simp; omega)⟩) (fun v14 => ?_))
      refine cons (opv (Ev.assign (.t rfl)) ?_)
      refine nil ?_
      refine pN ?_
      refine ret ?_
      refine done rfl (.tmp rfl .nil) (retOE (by repeat first | exact mH | apply mT | apply mA) ?_)
      by_cases h6 : h.proto = 6
      · first
          | (exfalso; simp_all; done)
          | (unfold bodyB
             rw [if_pos h6]
             simp only [List.nil_append, List.append_assoc]
             rfl)
      · first
          | (exfalso; simp_all; done)
          | (have h17 : h.proto = 17 := by
               by_cases e : h.proto = 17
               · exact e
               · exact absurd (by unfold midN; rw [if_neg h6, if_neg e]) h0
             unfold bodyB
             rw [if_neg h6, if_pos h17]
             simp only [List.nil_append, List.append_assoc])
end Go.Proofs.Ytegcihhhighipaa
