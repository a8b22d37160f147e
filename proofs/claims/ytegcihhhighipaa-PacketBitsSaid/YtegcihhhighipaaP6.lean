/- packet -/
import Derived.Test.YtegcihhhighipaaP5
set_option linter.unusedVariables false
set_option linter.unusedSimpArgs false
namespace Go.Proofs.Ytegcihhhighipaa
open Go Go.Gx

/-- An IPv4 front, the sum in it 0. -/
def headF (h : SHeader) (n : Int) : List UInt8 := [69, h.class_] ++ putB 2 (UInt16.ofInt (20 + n)).toUInt64 ++ putB 2 h.id.toUInt16.toUInt64 ++ putB 2 (16384 : UInt16).toUInt64 ++ [h.tTL, h.proto, 0, 0] ++ addrB h.src ++ addrB h.dst
/-- The front of a packet with so many bytes behind it. -/
def headB (h : SHeader) (n : Int) : List UInt8 :=
  if h.src.v6 = true then putB 4 (1610612736 ||| shl32 h.class_.toUInt32 20 ||| h.id).toUInt64 ++ putB 2 (UInt16.ofInt n).toUInt64 ++ [h.proto, h.tTL] ++ addrB h.src ++ addrB h.dst
  else layB (headF h n) 10 (sumB (headF h n))
theorem headF_length (h : SHeader) (n : Int) : (headF h n).length = 12 + (addrB h.src).length + (addrB h.dst).length := by
  simp [headF]
  omega
theorem addrB_le (a : SAddr) : 4 ≤ (addrB a).length ∧ (addrB a).length ≤ 16 := by rw [addrB_length]; cases a.v6 <;> decide

theorem en35 : Enters Try.prog 35 := Enters.mk' (by kernel_rfl)

theorem head_ok (h : SHeader) (n : Int) (w : World) (hn : 0 ≤ n ∧ n ≤ 4096) : Calls Try.prog 38 #[eHeader.val h, I n] w (RetO w u8E (headB h n) 5) := by
  have a1 := addrB_le h.src
  have a2 := addrB_le h.dst
  refine enter0 84 Try.func38 rfl rfl (Nat.le_of_ble_eq_true rfl) ?_
  refine seq ?_
  refine region ?_
  refine cons (box (E := eHeader) (.t rfl) (fun b1 => ?_))
  refine cons (opv (Ev.assign (.c (v := (Go.Value.slice none 0 0)) rfl)) ?_)
  refine nil ?_
  refine pN ?_
  refine seq ?_
  refine region ?_
  refine cons (opv (Ev.assign (.c (v := (Go.Value.slice none 0 0)) rfl)) ?_)
  refine takeNil u8E 5 ?_
  refine nil ?_
  refine pN ?_
  refine seq ?_
  refine seq ?_
  refine region ?_
  refine cons (opv (Ev.fieldAddr (o := 0) (.t rfl) (by kernel_rfl)) ?_)
  refine cons (opv (Ev.fieldAddr (o := 0) (.t rfl) (by kernel_rfl)) ?_)
  refine cons (opv (Ev.load (xv := h.src.v6) ty4 (.t rfl) (ptsVar (by repeat first | exact mH | apply mT | apply mA) (Lens.comp SHeader.l_src SAddr.l_v6))) ?_)
  refine nil ?_
  refine pN ?_
  first | refine condD rfl (fun h0 => ?_) (fun h0 => ?_) | refine cond rfl (fun h0 => ?_) (fun h0 => ?_)
  · try simp only [Bool.and_eq_true, Bool.or_eq_true, Bool.or_eq_false_iff, Bool.and_eq_false_iff, Bool.not_eq_true', Bool.not_eq_false', decide_eq_true_eq, decide_eq_false_iff_not, Decidable.not_not] at h0
    refine seq ?_
    refine region ?_
    refine cons (opv (Ev.assign (.c (v := U32 1610612736) rfl)) ?_)
    refine nil ?_
    refine pN ?_
    refine seq ?_
    refine region ?_
    refine cons (opv (Ev.move (.t rfl)) ?_)
    refine cons (opv (Ev.fieldAddr (o := 38) (.t rfl) (by kernel_rfl)) ?_)
    refine cons (opv (Ev.load (xv := h.class_) ty5 (.t rfl) (ptsVar (by repeat first | exact mH | apply mT | apply mA) SHeader.l_class_)) ?_)
    refine cons (opv (Ev.conv_u8_u32 Try.underlying26 Try.underlying5 (.t rfl)) ?_)
    refine cons (opv (Ev.shl_u32 (.t rfl) (.c rfl) (fun _ => by decide)) ?_)
    refine cons (opv (Ev.or_u32 (.t rfl) (.t rfl)) ?_)
    refine cons (opv (Ev.assign (.t rfl)) ?_)
    refine nil ?_
    refine pN ?_
    refine seq ?_
    refine region ?_
    refine cons (opv (Ev.move (.t rfl)) ?_)
    refine cons (opv (Ev.fieldAddr (o := 39) (.t rfl) (by kernel_rfl)) ?_)
    refine cons (opv (Ev.load (xv := h.id) ty26 (.t rfl) (ptsVar (by repeat first | exact mH | apply mT | apply mA) SHeader.l_id)) ?_)
    refine cons (opv (Ev.or_u32 (.t rfl) (.t rfl)) ?_)
    refine cons (opv (Ev.assign (.t rfl)) ?_)
    refine nil ?_
    refine pN ?_
    refine seq ?_
    refine region ?_
    refine cons (opv (Ev.move (.t rfl)) ?_)
    refine cons (opv (Ev.move (.t rfl)) ?_)
    refine cons (callo en54 (.cons (.t rfl) (.cons (.t rfl) .nil)) (fun w I => put_uint32_ok _ _ _ w (by first | exact isSl_own (by repeat first | exact mH | apply mT | apply mA) w I | exact IsSl.keep0 (by assumption) I.keeps) (by first | assumption | omega | (simp [putB_length]; done) | (simp [putB_length]; omega))) (fun v2 => ?_))
    refine cons (opv (Ev.assign (.t rfl)) ?_)
    refine nil ?_
    refine pN ?_
    refine seq ?_
    refine region ?_
    refine cons (opv (Ev.move (.t rfl)) ?_)
    refine cons (opv (Ev.move (.t rfl)) ?_)
    refine cons (opv (Ev.conv_i_u16 Try.underlying25 Try.underlying3 (.t rfl)) ?_)
    refine cons (callo en53 (.cons (.t rfl) (.cons (.t rfl) .nil)) (fun w I => put_uint16_ok _ _ _ w (by first | exact isSl_own (by repeat first | exact mH | apply mT | apply mA) w I | exact IsSl.keep0 (by assumption) I.keeps) (by first | assumption | omega | (simp [putB_length]; done) | (simp [putB_length]; omega))) (fun v3 => ?_))
    refine cons (opv (Ev.assign (.t rfl)) ?_)
    refine nil ?_
    refine pN ?_
    refine seq ?_
    refine region ?_
    refine cons (opv (Ev.move (.t rfl)) ?_)
    refine cons (opv (Ev.fieldAddr (o := 34) (.t rfl) (by kernel_rfl)) ?_)
    refine cons (opv (Ev.load (xv := h.proto) ty5 (.t rfl) (ptsVar (by repeat first | exact mH | apply mT | apply mA) SHeader.l_proto)) ?_)
    refine cons (opv (Ev.fieldAddr (o := 37) (.t rfl) (by kernel_rfl)) ?_)
    refine cons (opv (Ev.load (xv := h.tTL) ty5 (.t rfl) (ptsVar (by repeat first | exact mH | apply mT | apply mA) SHeader.l_tTL)) ?_)
    refine cons (buildSlice (E := u8E) Try.underlying27 ty5 z5 (.cons (.t rfl) (.cons (.t rfl) .nil)) rfl rfl (fun v4 => ?_))
    refine cons (append (E := u8E) Try.underlying27 ty5 rfl zb5 zs5 (.t rfl) (.t rfl) (fun _ => by repeat first | exact Upd.head | apply Upd.tail | apply Upd.right) (by first | exact isSl_own (by repeat first | exact mH | apply mT | apply mA) | exact fun w I => IsSl.keep0 (by assumption) I.keeps) (⟨by (show _ ≤ 9223372036854775807); first | omega | (simp; done) | (simp; omega), by first | omega | (simp; done) | (simp; omega)⟩) (fun v5 => ?_))
    refine cons (opv (Ev.assign (.t rfl)) ?_)
    refine nil ?_
    refine pN ?_
    refine seq ?_
    refine region ?_
    refine cons (opv (Ev.move (.t rfl)) ?_)
    refine cons (opv (Ev.fieldAddr (o := 0) (.t rfl) (by kernel_rfl)) ?_)
    refine cons (opv (Ev.load (xv := h.src) ty24 (.t rfl) (ptsVar (by repeat first | exact mH | apply mT | apply mA) SHeader.l_src)) ?_)
    refine cons (calln (X := Nat) (fun _ => True) (fun b => (adO b h.src).v) (fun b => [Var b eAddr h.src 24]) en56 (.cons (.t rfl) .nil) (fun w I => address_ok _ w) (fun n9 _ => ?_))
    refine cons (append (E := u8E) Try.underlying27 ty5 rfl zb5 zs5 (.t rfl) (.t rfl) (fun _ => by repeat first | exact Upd.head | apply Upd.tail | apply Upd.right) (fun w I => isSl_ad (by repeat first | exact mH | apply mT | apply mA) w I) (⟨by (show _ ≤ 9223372036854775807); first | omega | (simp; done) | (simp; omega), by first | omega | (simp; done) | (simp; omega)⟩) (fun v6 => ?_))
    refine cons (opv (Ev.assign (.t rfl)) ?_)
    refine nil ?_
    refine pN ?_
    refine seq ?_
    refine region ?_
    refine cons (opv (Ev.move (.t rfl)) ?_)
    refine cons (opv (Ev.fieldAddr (o := 17) (.t rfl) (by kernel_rfl)) ?_)
    refine cons (opv (Ev.load (xv := h.dst) ty24 (.t rfl) (ptsVar (by repeat first | exact mH | apply mT | apply mA) SHeader.l_dst)) ?_)
    refine cons (calln (X := Nat) (fun _ => True) (fun b => (adO b h.dst).v) (fun b => [Var b eAddr h.dst 24]) en56 (.cons (.t rfl) .nil) (fun w I => address_ok _ w) (fun n10 _ => ?_))
    refine cons (append (E := u8E) Try.underlying27 ty5 rfl zb5 zs5 (.t rfl) (.t rfl) (fun _ => by repeat first | exact Upd.head | apply Upd.tail | apply Upd.right) (fun w I => isSl_ad (by repeat first | exact mH | apply mT | apply mA) w I) (⟨by (show _ ≤ 9223372036854775807); first | omega | (simp; done) | (simp; omega), by first | omega | (simp; done) | (simp; omega)⟩) (fun v7 => ?_))
    refine cons (opv (Ev.assign (.t rfl)) ?_)
    refine nil ?_
    refine pN ?_
    refine ret ?_
    refine pR ?_
    refine done rfl (.tmp rfl .nil) (retOE (by repeat first | exact mH | apply mT | apply mA) ?_)
    unfold headB
    rw [if_pos h0]
    simp only [List.nil_append, List.append_assoc]
    rfl
  · try simp only [Bool.and_eq_true, Bool.or_eq_true, Bool.or_eq_false_iff, Bool.and_eq_false_iff, Bool.not_eq_true', Bool.not_eq_false', decide_eq_true_eq, decide_eq_false_iff_not, Decidable.not_not] at h0
    refine skip ?_
    refine pN ?_
    refine seq ?_
    refine region ?_
    refine cons (opv (Ev.move (.t rfl)) ?_)
    refine cons (opv (Ev.fieldAddr (o := 38) (.t rfl) (by kernel_rfl)) ?_)
    refine cons (opv (Ev.load (xv := h.class_) ty5 (.t rfl) (ptsVar (by repeat first | exact mH | apply mT | apply mA) SHeader.l_class_)) ?_)
    refine cons (buildSlice (E := u8E) Try.underlying27 ty5 z5 (.cons (.c (v := U8 69) rfl) (.cons (.t rfl) .nil)) rfl rfl (fun v8 => ?_))
    refine cons (append (E := u8E) Try.underlying27 ty5 rfl zb5 zs5 (.t rfl) (.t rfl) (fun _ => by repeat first | exact Upd.head | apply Upd.tail | apply Upd.right) (by first | exact isSl_own (by repeat first | exact mH | apply mT | apply mA) | exact fun w I => IsSl.keep0 (by assumption) I.keeps) (⟨by (show _ ≤ 9223372036854775807); first | omega | (simp; done) | (simp; omega), by first | omega | (simp; done) | (simp; omega)⟩) (fun v9 => ?_))
    refine cons (opv (Ev.assign (.t rfl)) ?_)
    refine nil ?_
    refine pN ?_
    refine seq ?_
    refine region ?_
    refine cons (opv (Ev.move (.t rfl)) ?_)
    refine cons (opv (Ev.move (.t rfl)) ?_)
    refine cons (opv (Ev.add_i (.c (v := I 20) rfl) (.t rfl) (fun _ => by omega)) ?_)
    refine cons (opv (Ev.conv_i_u16 Try.underlying25 Try.underlying3 (.t rfl)) ?_)
    refine cons (callo en53 (.cons (.t rfl) (.cons (.t rfl) .nil)) (fun w I => put_uint16_ok _ _ _ w (by first | exact isSl_own (by repeat first | exact mH | apply mT | apply mA) w I | exact IsSl.keep0 (by assumption) I.keeps) (by first | assumption | omega | (simp [putB_length]; done) | (simp [putB_length]; omega))) (fun v10 => ?_))
    refine cons (opv (Ev.assign (.t rfl)) ?_)
    refine nil ?_
    refine pN ?_
    refine seq ?_
    refine region ?_
    refine cons (opv (Ev.move (.t rfl)) ?_)
    refine cons (opv (Ev.fieldAddr (o := 39) (.t rfl) (by kernel_rfl)) ?_)
    refine cons (opv (Ev.load (xv := h.id) ty26 (.t rfl) (ptsVar (by repeat first | exact mH | apply mT | apply mA) SHeader.l_id)) ?_)
    refine cons (opv (Ev.conv_u32_u16 Try.underlying25 Try.underlying26 (.t rfl)) ?_)
    refine cons (callo en53 (.cons (.t rfl) (.cons (.t rfl) .nil)) (fun w I => put_uint16_ok _ _ _ w (by first | exact isSl_own (by repeat first | exact mH | apply mT | apply mA) w I | exact IsSl.keep0 (by assumption) I.keeps) (by first | assumption | omega | (simp [putB_length]; done) | (simp [putB_length]; omega))) (fun v11 => ?_))
    refine cons (opv (Ev.assign (.t rfl)) ?_)
    refine nil ?_
    refine pN ?_
    refine seq ?_
    refine region ?_
    refine cons (opv (Ev.move (.t rfl)) ?_)
    refine cons (callo en53 (.cons (.t rfl) (.cons (.c (v := U16 16384) rfl) .nil)) (fun w I => put_uint16_ok _ _ _ w (by first | exact isSl_own (by repeat first | exact mH | apply mT | apply mA) w I | exact IsSl.keep0 (by assumption) I.keeps) (by first | assumption | omega | (simp [putB_length]; done) | (simp [putB_length]; omega))) (fun v12 => ?_))
    refine cons (opv (Ev.assign (.t rfl)) ?_)
    refine nil ?_
    refine pN ?_
    refine seq ?_
    refine region ?_
    refine cons (opv (Ev.move (.t rfl)) ?_)
    refine cons (opv (Ev.fieldAddr (o := 37) (.t rfl) (by kernel_rfl)) ?_)
    refine cons (opv (Ev.load (xv := h.tTL) ty5 (.t rfl) (ptsVar (by repeat first | exact mH | apply mT | apply mA) SHeader.l_tTL)) ?_)
    refine cons (opv (Ev.fieldAddr (o := 34) (.t rfl) (by kernel_rfl)) ?_)
    refine cons (opv (Ev.load (xv := h.proto) ty5 (.t rfl) (ptsVar (by repeat first | exact mH | apply mT | apply mA) SHeader.l_proto)) ?_)
    refine cons (buildSlice (E := u8E) Try.underlying27 ty5 z5 (.cons (.t rfl) (.cons (.t rfl) (.cons (.c (v := U8 0) rfl) (.cons (.c (v := U8 0) rfl) .nil)))) rfl rfl (fun v13 => ?_))
    refine cons (append (E := u8E) Try.underlying27 ty5 rfl zb5 zs5 (.t rfl) (.t rfl) (fun _ => by repeat first | exact Upd.head | apply Upd.tail | apply Upd.right) (by first | exact isSl_own (by repeat first | exact mH | apply mT | apply mA) | exact fun w I => IsSl.keep0 (by assumption) I.keeps) (⟨by (show _ ≤ 9223372036854775807); first | omega | (simp; done) | (simp; omega), by first | omega | (simp; done) | (simp; omega)⟩) (fun v14 => ?_))
    refine cons (opv (Ev.assign (.t rfl)) ?_)
    refine nil ?_
    refine pN ?_
    refine seq ?_
    refine region ?_
    refine cons (opv (Ev.move (.t rfl)) ?_)
    refine cons (opv (Ev.fieldAddr (o := 0) (.t rfl) (by kernel_rfl)) ?_)
    refine cons (opv (Ev.load (xv := h.src) ty24 (.t rfl) (ptsVar (by repeat first | exact mH | apply mT | apply mA) SHeader.l_src)) ?_)
    refine cons (calln (X := Nat) (fun _ => True) (fun b => (adO b h.src).v) (fun b => [Var b eAddr h.src 24]) en56 (.cons (.t rfl) .nil) (fun w I => address_ok _ w) (fun n16 _ => ?_))
    refine cons (append (E := u8E) Try.underlying27 ty5 rfl zb5 zs5 (.t rfl) (.t rfl) (fun _ => by repeat first | exact Upd.head | apply Upd.tail | apply Upd.right) (fun w I => isSl_ad (by repeat first | exact mH | apply mT | apply mA) w I) (⟨by (show _ ≤ 9223372036854775807); first | omega | (simp; done) | (simp; omega), by first | omega | (simp; done) | (simp; omega)⟩) (fun v15 => ?_))
    refine cons (opv (Ev.assign (.t rfl)) ?_)
    refine nil ?_
    refine pN ?_
    refine seq ?_
    refine region ?_
    refine cons (opv (Ev.move (.t rfl)) ?_)
    refine cons (opv (Ev.fieldAddr (o := 17) (.t rfl) (by kernel_rfl)) ?_)
    refine cons (opv (Ev.load (xv := h.dst) ty24 (.t rfl) (ptsVar (by repeat first | exact mH | apply mT | apply mA) SHeader.l_dst)) ?_)
    refine cons (calln (X := Nat) (fun _ => True) (fun b => (adO b h.dst).v) (fun b => [Var b eAddr h.dst 24]) en56 (.cons (.t rfl) .nil) (fun w I => address_ok _ w) (fun n17 _ => ?_))
    refine cons (append (E := u8E) Try.underlying27 ty5 rfl zb5 zs5 (.t rfl) (.t rfl) (fun _ => by repeat first | exact Upd.head | apply Upd.tail | apply Upd.right) (fun w I => isSl_ad (by repeat first | exact mH | apply mT | apply mA) w I) (⟨by (show _ ≤ 9223372036854775807); first | omega | (simp; done) | (simp; omega), by first | omega | (simp; done) | (simp; omega)⟩) (fun v16 => ?_))
    refine cons (opv (Ev.assign (.t rfl)) ?_)
    refine nil ?_
    refine pN ?_
    refine seq ?_
    refine region ?_
    refine cons (opv (Ev.move (.t rfl)) ?_)
    refine cons (opv (Ev.move (.t rfl)) ?_)
    refine cons (buildSlice (E := (ovE nilSl)) Try.underlying79 ty27 z27 (.cons (.t rfl) .nil) rfl rfl (fun v17 => ?_))
    refine cons (callv en55 (.cons (.t rfl) .nil) (fun w I => sum_ok _ _ w (IsSS.mk' (isSl_own (by repeat first | exact mH | apply mT | apply mA) w I) (.cons (isSl_own (by repeat first | exact mH | apply mT | apply mA) w I) .nil))) ?_)
    refine cons (callw (E := u8E) (xs := headF h n) (T := 5) (by repeat first | exact Upd.head | apply Upd.tail | apply Upd.right) en35 (.cons (.t rfl) (.cons (.c (v := I 10) rfl) (.cons (.t rfl) .nil))) (fun w I => lay_ok _ (headF h n) _ _ w ⟨by omega, by rw [headF_length]; omega⟩ (I.own (OwnS _ u8E (headF h n) 5) (by repeat first | exact mH | apply mT | apply mA)).1 (fun b hb => ((I.own (OwnS _ u8E (headF h n) 5) (by repeat first | exact mH | apply mT | apply mA)).2 b hb).2)) ?_)
    refine nil ?_
    refine pN ?_
    refine seq ?_
    refine region ?_
    refine cons (opv (Ev.move (.t rfl)) ?_)
    refine cons (opv (Ev.assign (.t rfl)) ?_)
    refine nil ?_
    refine pN ?_
    refine ret ?_
    refine done rfl (.tmp rfl .nil) (retOE (by repeat first | exact mH | apply mT | apply mA) ?_)
    unfold headB
    rw [if_neg (by simp [h0])]
    exact congrArg (fun z => layB (headF h n) 10 (sumB z)) (by simp only [headF, List.flatten_cons, List.flatten_nil, List.append_nil, List.nil_append])
end Go.Proofs.Ytegcihhhighipaa
