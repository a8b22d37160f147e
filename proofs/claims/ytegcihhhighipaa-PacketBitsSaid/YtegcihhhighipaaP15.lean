/- packet -/
import Derived.Test.YtegcihhhighipaaP14
set_option linter.unusedVariables false
set_option linter.unusedSimpArgs false
namespace Go.Proofs.Ytegcihhhighipaa
open Go Go.Gx

/-- An IPv4 front with a sum. -/
def fourB (h : SHeader) (n : Int) (s : UInt16) : List UInt8 := [69, h.class_] ++ (putB 2 (UInt64.ofInt n) ++ (putB 2 h.id.toUInt64 ++ ([64, 0, h.tTL, h.proto] ++ (putB 2 s.toUInt64 ++ (addrB h.src ++ addrB h.dst)))))
theorem putB_two (v : UInt64) : putB 2 v = [(shr64 v 8).toUInt8, (shr64 v 0).toUInt8] := rfl
theorem lay_two (s : UInt16) : putB 2 s.toUInt64 = [(shr16 s 8).toUInt8, s.toUInt8] := by
  have h := s.toNat_lt
  rw [putB_two]
  simp only [List.cons.injEq, and_true]
  constructor
  · apply UInt8.toNat_inj.1
    simp [toNat_shr64, shr16]
  · apply UInt8.toNat_inj.1
    simp [toNat_shr64]
theorem layB_four (h : SHeader) (n : Int) (s s2 : UInt16) : layB (fourB h n s) 10 s2 = fourB h n s2 := by
  unfold layB fourB
  rw [lay_two s, lay_two s2]
  rfl
theorem headF_four (h : SHeader) (n : Int) : headF h n = fourB h (20 + n) 0 := by
  unfold headF fourB
  have e : h.id.toUInt16 = h.id.toUInt64.toUInt16 := by
    apply UInt16.toNat_inj.1
    simp
  rw [putB2_int, e, putB2_cut]
  simp only [List.append_assoc]
  rfl
theorem first_eq (c : UInt8) (i : UInt32) (hi : i ≤ 1048575) : (1610612736 : UInt64) + shl64 c.toUInt64 20 + i.toUInt64 = (1610612736 ||| shl32 c.toUInt32 20 ||| i).toUInt64 := by
  have h1 := c.toNat_lt
  have h2 : i.toNat ≤ 1048575 := by simpa [UInt32.le_iff_toNat_le] using hi
  apply UInt64.toNat_inj.1
  rw [UInt32.toNat_toUInt64, UInt32.toNat_or, UInt32.toNat_or, toNat_shl32, UInt64.toNat_add, UInt64.toNat_add, toNat_shl64]
  rw [UInt8.toNat_toUInt64, UInt8.toNat_toUInt32, UInt32.toNat_toUInt64]
  have e1 : c.toNat * 2 ^ 20 % 4294967296 = c.toNat * 2 ^ 20 := by omega
  have e2 : (1610612736 : UInt32).toNat = 2 ^ 28 * 6 := by decide
  have e5 : (1610612736 : UInt64).toNat = 2 ^ 28 * 6 := by decide
  rw [e1, e2, e5, ← Nat.two_pow_add_eq_or_of_lt (by omega : c.toNat * 2 ^ 20 < 2 ^ 28)]
  have e3 : 2 ^ 28 * 6 + c.toNat * 2 ^ 20 = 2 ^ 20 * (2 ^ 8 * 6 + c.toNat) := by omega
  have e4 : c.toNat * 2 ^ 20 % 18446744073709551616 = c.toNat * 2 ^ 20 := by omega
  rw [e4, e3, ← Nat.two_pow_add_eq_or_of_lt (by omega : i.toNat < 2 ^ 20)]
  omega
/-- The sum that Make lays in. -/
def restS (h : SHeader) (d : List UInt8) : UInt16 := if midN h.proto = 0 then 0 else sumH h (bodyB h d 0)
theorem layB_body (h : SHeader) (d : List UInt8) (s s2 : UInt16) (hm : midN h.proto ≠ 0) : layB (bodyB h d s) (atN h.proto) s2 = bodyB h d s2 := by
  rcases midN_cases h.proto with e | ⟨e, _⟩ | ⟨e, _⟩
  · exact absurd e hm
  · unfold layB bodyB atN
    rw [if_pos e, if_pos e, if_pos e, lay_two s, lay_two s2]
    simp only [List.append_assoc]
    rfl
  · have e6 : ¬ h.proto = 6 := by rw [e]; decide
    unfold layB bodyB atN
    rw [if_neg e6, if_neg e6, if_neg e6, if_pos e, if_pos e, lay_two s, lay_two s2]
    simp only [List.append_assoc]
    rfl
theorem restB_eq (h : SHeader) (d : List UInt8) : restB h d = bodyB h d (restS h d) := by
  unfold restB restS
  by_cases hm : midN h.proto = 0
  · rw [if_pos hm, if_pos hm]
  · rw [if_neg hm, if_neg hm, layB_body h d _ _ hm]
theorem makeB_six (h : SHeader) (d : List UInt8) (hv : h.src.v6 = true) (hi : h.id ≤ 1048575) : makeB h d = putB 4 ((1610612736 : UInt64) + shl64 h.class_.toUInt64 20 + h.id.toUInt64) ++ (putB 2 (UInt64.ofInt (bodyB h d (restS h d)).length) ++ ([h.proto, h.tTL] ++ (addrB h.src ++ (addrB h.dst ++ bodyB h d (restS h d))))) := by
  unfold makeB headB
  rw [if_pos hv, restB_eq, first_eq _ _ hi, putB2_int]
  simp only [List.append_assoc]
theorem headB_four (h : SHeader) (n : Int) (hv : h.src.v6 = false) : headB h n = fourB h (20 + n) (sumB (fourB h (20 + n) 0)) := by
  unfold headB
  rw [if_neg (by rw [hv]; decide), headF_four, layB_four]
theorem makeB_four (h : SHeader) (d : List UInt8) (hv : h.src.v6 = false) : makeB h d = fourB h (20 + (bodyB h d (restS h d)).length) (sumB (fourB h (20 + (bodyB h d (restS h d)).length) 0)) ++ bodyB h d (restS h d) := by
  unfold makeB
  rw [headB_four h _ hv, restB_eq]
theorem checkH_id (h : SHeader) (n : Int) (hc : checkH h n = 0) : h.src.v6 = true → h.id ≤ 1048575 := fun hv => by
  unfold checkH at hc
  split at hc
  · exact absurd hc (by decide)
  · rename_i h1
    have h2 : ¬ (bif h.src.v6 then 1048575 else 65535) < h.id := fun k => h1 (.inr (.inr (.inr k)))
    rw [hv] at h2
    exact UInt32.not_lt.1 h2

set_option maxHeartbeats 4000000 in
theorem rfour_ok (h : SHeader) (n : Int) (s : UInt16) (w : World) : Calls Try.prog 46 #[eHeader.val h, I n, U16 s] w (RetO w u8E (fourB h n s) 5) := by
  have ha1 := addrB_le h.src
  have ha2 := addrB_le h.dst
  refine enter0 33 Try.func46 rfl rfl (Nat.le_of_ble_eq_true rfl) ?_
  refine seq ?_
  refine region ?_
  refine cons (box (E := eHeader) (.t rfl) (fun b1 => ?_))
  refine cons (opv (Ev.assign (.c (v := (Go.Value.slice none 0 0)) rfl)) ?_)
  refine nil ?_
  refine pN ?_
  refine seq ?_
  refine draw' (by kernel_rfl) ?_
  refine take 0 rfl (by kernel_rfl) (by kernel_rfl) (by kernel_rfl) (by repeat first | exact sR | exact sN | apply sC | apply sS | apply sA) (Ev.fieldAddr (o := 38) (.t rfl) (by kernel_rfl)) ?_
  refine take 1 rfl (by kernel_rfl) (by kernel_rfl) (by kernel_rfl) (by repeat first | exact sR | exact sN | apply sC | apply sS | apply sA) (Ev.load (xv := h.class_) ty5 (.t rfl) (ptsVar (by repeat first | exact mH | apply mT | apply mA) SHeader.l_class_)) ?_
  refine take 3 rfl (by kernel_rfl) (by kernel_rfl) (by kernel_rfl) (by repeat first | exact sR | exact sN | apply sC | apply sS | apply sA) (Ev.move (.t rfl)) ?_
  refine take 4 rfl (by kernel_rfl) (by kernel_rfl) (by kernel_rfl) (by repeat first | exact sR | exact sN | apply sC | apply sS | apply sA) (Ev.conv_i_u64 Try.underlying66 Try.underlying3 (.t rfl)) ?_
  refine take 6 rfl (by kernel_rfl) (by kernel_rfl) (by kernel_rfl) (by repeat first | exact sR | exact sN | apply sC | apply sS | apply sA) (Ev.fieldAddr (o := 39) (.t rfl) (by kernel_rfl)) ?_
  refine take 7 rfl (by kernel_rfl) (by kernel_rfl) (by kernel_rfl) (by repeat first | exact sR | exact sN | apply sC | apply sS | apply sA) (Ev.load (xv := h.id) ty26 (.t rfl) (ptsVar (by repeat first | exact mH | apply mT | apply mA) SHeader.l_id)) ?_
  refine take 8 rfl (by kernel_rfl) (by kernel_rfl) (by kernel_rfl) (by repeat first | exact sR | exact sN | apply sC | apply sS | apply sA) (Ev.conv_u32_u64 Try.underlying66 Try.underlying26 (.t rfl)) ?_
  refine take 10 rfl (by kernel_rfl) (by kernel_rfl) (by kernel_rfl) (by repeat first | exact sR | exact sN | apply sC | apply sS | apply sA) (Ev.fieldAddr (o := 37) (.t rfl) (by kernel_rfl)) ?_
  refine take 11 rfl (by kernel_rfl) (by kernel_rfl) (by kernel_rfl) (by repeat first | exact sR | exact sN | apply sC | apply sS | apply sA) (Ev.load (xv := h.tTL) ty5 (.t rfl) (ptsVar (by repeat first | exact mH | apply mT | apply mA) SHeader.l_tTL)) ?_
  refine take 12 rfl (by kernel_rfl) (by kernel_rfl) (by kernel_rfl) (by repeat first | exact sR | exact sN | apply sC | apply sS | apply sA) (Ev.fieldAddr (o := 34) (.t rfl) (by kernel_rfl)) ?_
  refine take 13 rfl (by kernel_rfl) (by kernel_rfl) (by kernel_rfl) (by repeat first | exact sR | exact sN | apply sC | apply sS | apply sA) (Ev.load (xv := h.proto) ty5 (.t rfl) (ptsVar (by repeat first | exact mH | apply mT | apply mA) SHeader.l_proto)) ?_
  refine take 15 rfl (by kernel_rfl) (by kernel_rfl) (by kernel_rfl) (by repeat first | exact sR | exact sN | apply sC | apply sS | apply sA) (Ev.move (.t rfl)) ?_
  refine take 16 rfl (by kernel_rfl) (by kernel_rfl) (by kernel_rfl) (by repeat first | exact sR | exact sN | apply sC | apply sS | apply sA) (Ev.conv_u16_u64 Try.underlying66 Try.underlying25 (.t rfl)) ?_
  refine take 18 rfl (by kernel_rfl) (by kernel_rfl) (by kernel_rfl) (by repeat first | exact sR | exact sN | apply sC | apply sS | apply sA) (Ev.fieldAddr (o := 0) (.t rfl) (by kernel_rfl)) ?_
  refine take 19 rfl (by kernel_rfl) (by kernel_rfl) (by kernel_rfl) (by repeat first | exact sR | exact sN | apply sC | apply sS | apply sA) (Ev.load (xv := h.src) ty24 (.t rfl) (ptsVar (by repeat first | exact mH | apply mT | apply mA) SHeader.l_src)) ?_
  refine take 21 rfl (by kernel_rfl) (by kernel_rfl) (by kernel_rfl) (by repeat first | exact sR | exact sN | apply sC | apply sS | apply sA) (Ev.fieldAddr (o := 17) (.t rfl) (by kernel_rfl)) ?_
  refine take 22 rfl (by kernel_rfl) (by kernel_rfl) (by kernel_rfl) (by repeat first | exact sR | exact sN | apply sC | apply sS | apply sA) (Ev.load (xv := h.dst) ty24 (.t rfl) (ptsVar (by repeat first | exact mH | apply mT | apply mA) SHeader.l_dst)) ?_
  refine all [2, 5, 14] (by kernel_rfl) (by decide) (.cons rfl ?_ (.cons rfl ?_ (.cons rfl ?_ .nil)))
  · refine (buildSlice (E := u8E) Try.underlying27 ty5 z5 (.cons (.c (v := U8 69) rfl) (.cons (.t rfl) .nil)) rfl rfl (fun v2 => ?_))
    refine heldN_of (by repeat first | exact sR | exact sN | apply sC | apply sS | apply sA) ?_
    refine all [5, 14] (by kernel_rfl) (by decide) (.cons rfl ?_ (.cons rfl ?_ .nil))
    · refine (callo en44 (.cons (.t rfl) (.cons (.c (v := I 2) rfl) .nil)) (fun w I => bytes_ok _ _ w (by decide)) (fun v3 => ?_))
      refine heldN_of (by repeat first | exact sR | exact sN | apply sC | apply sS | apply sA) ?_
      refine all [9, 14] (by kernel_rfl) (by decide) (.cons rfl ?_ (.cons rfl ?_ .nil))
      · refine (callo en44 (.cons (.t rfl) (.cons (.c (v := I 2) rfl) .nil)) (fun w I => bytes_ok _ _ w (by decide)) (fun v4 => ?_))
        refine heldN_of (by repeat first | exact sR | exact sN | apply sC | apply sS | apply sA) ?_
        refine all [14, 17] (by kernel_rfl) (by decide) (.cons rfl ?_ (.cons rfl ?_ .nil))
        · refine (buildSlice (E := u8E) Try.underlying27 ty5 z5 (.cons (.c (v := U8 64) rfl) (.cons (.c (v := U8 0) rfl) (.cons (.t rfl) (.cons (.t rfl) .nil)))) rfl rfl (fun v5 => ?_))
          refine heldN_of (by repeat first | exact sR | exact sN | apply sC | apply sS | apply sA) ?_
          refine all [17] (by kernel_rfl) (by decide) (.cons rfl ?_ .nil)
          refine (callo en44 (.cons (.t rfl) (.cons (.c (v := I 2) rfl) .nil)) (fun w I => bytes_ok _ _ w (by decide)) (fun v6 => ?_))
          refine heldN_of (by repeat first | exact sR | exact sN | apply sC | apply sS | apply sA) ?_
          refine all [20] (by kernel_rfl) (by decide) (.cons rfl ?_ .nil)
          refine (callo en45 (.cons (.t rfl) .nil) (fun w I => rbytes_ok _ w) (fun v7 => ?_))
          refine heldN_of (by repeat first | exact sR | exact sN | apply sC | apply sS | apply sA) ?_
          refine all [23] (by kernel_rfl) (by decide) (.cons rfl ?_ .nil)
          refine (callo en45 (.cons (.t rfl) .nil) (fun w I => rbytes_ok _ w) (fun v8 => ?_))
          refine heldN_of (by repeat first | exact sR | exact sN | apply sC | apply sS | apply sA) ?_
          refine all [24] (by kernel_rfl) (by decide) (.cons rfl ?_ .nil)
          refine (buildSlice (E := (ovE nilSl)) Try.underlying79 ty27 z27 (.cons (.t rfl) (.cons (.t rfl) (.cons (.t rfl) (.cons (.t rfl) (.cons (.t rfl) (.cons (.t rfl) (.cons (.t rfl) .nil))))))) rfl rfl (fun v9 => ?_))
          refine heldN_of (by repeat first | exact sR | exact sN | apply sC | apply sS | apply sA) ?_
          refine all [25] (by kernel_rfl) (by decide) (.cons rfl ?_ .nil)
          refine (callo en43 (.cons (.t rfl) .nil) (fun w I => join_ok _ _ w (IsSS.mk' (isSl_own (by repeat first | exact mH | apply mT | apply mA) w I) (.cons (isSl_own (by repeat first | exact mH | apply mT | apply mA) w I) (.cons (isSl_own (by repeat first | exact mH | apply mT | apply mA) w I) (.cons (isSl_own (by repeat first | exact mH | apply mT | apply mA) w I) (.cons (isSl_own (by repeat first | exact mH | apply mT | apply mA) w I) (.cons (isSl_own (by repeat first | exact mH | apply mT | apply mA) w I) (.cons (isSl_own (by repeat first | exact mH | apply mT | apply mA) w I) (.cons (isSl_own (by repeat first | exact mH | apply mT | apply mA) w I) .nil)))))))) (by simp [putB_length]; try omega)) (fun v10 => ?_))
          refine heldN_of (by repeat first | exact sR | exact sN | apply sC | apply sS | apply sA) ?_
          refine take 26 rfl (by kernel_rfl) (by kernel_rfl) (by kernel_rfl) (by repeat first | exact sR | exact sN | apply sC | apply sS | apply sA) (Ev.assign (.t rfl)) ?_
          refine over (by kernel_rfl) ?_
          refine pN ?_
          refine ret ?_
          refine done rfl (.tmp rfl .nil) (retOE (by repeat first | exact mH | apply mT | apply mA) ?_)
          unfold fourB
          simp only [List.flatten_cons, List.flatten_nil, List.append_nil]
        · refine (callo en44 (.cons (.t rfl) (.cons (.c (v := I 2) rfl) .nil)) (fun w I => bytes_ok _ _ w (by decide)) (fun v11 => ?_))
          refine heldN_of (by repeat first | exact sR | exact sN | apply sC | apply sS | apply sA) ?_
          refine all [14, 20] (by kernel_rfl) (by decide) (.cons rfl ?_ (.cons rfl ?_ .nil))
          · refine (buildSlice (E := u8E) Try.underlying27 ty5 z5 (.cons (.c (v := U8 64) rfl) (.cons (.c (v := U8 0) rfl) (.cons (.t rfl) (.cons (.t rfl) .nil)))) rfl rfl (fun v12 => ?_))
            refine heldN_of (by repeat first | exact sR | exact sN | apply sC | apply sS | apply sA) ?_
            refine all [20] (by kernel_rfl) (by decide) (.cons rfl ?_ .nil)
            refine (callo en45 (.cons (.t rfl) .nil) (fun w I => rbytes_ok _ w) (fun v13 => ?_))
            refine heldN_of (by repeat first | exact sR | exact sN | apply sC | apply sS | apply sA) ?_
            refine all [23] (by kernel_rfl) (by decide) (.cons rfl ?_ .nil)
            refine (callo en45 (.cons (.t rfl) .nil) (fun w I => rbytes_ok _ w) (fun v14 => ?_))
            refine heldN_of (by repeat first | exact sR | exact sN | apply sC | apply sS | apply sA) ?_
            refine all [24] (by kernel_rfl) (by decide) (.cons rfl ?_ .nil)
            refine (buildSlice (E := (ovE nilSl)) Try.underlying79 ty27 z27 (.cons (.t rfl) (.cons (.t rfl) (.cons (.t rfl) (.cons (.t rfl) (.cons (.t rfl) (.cons (.t rfl) (.cons (.t rfl) .nil))))))) rfl rfl (fun v15 => ?_))
            refine heldN_of (by repeat first | exact sR | exact sN | apply sC | apply sS | apply sA) ?_
            refine all [25] (by kernel_rfl) (by decide) (.cons rfl ?_ .nil)
            refine (callo en43 (.cons (.t rfl) .nil) (fun w I => join_ok _ _ w (IsSS.mk' (isSl_own (by repeat first | exact mH | apply mT | apply mA) w I) (.cons (isSl_own (by repeat first | exact mH | apply mT | apply mA) w I) (.cons (isSl_own (by repeat first | exact mH | apply mT | apply mA) w I) (.cons (isSl_own (by repeat first | exact mH | apply mT | apply mA) w I) (.cons (isSl_own (by repeat first | exact mH | apply mT | apply mA) w I) (.cons (isSl_own (by repeat first | exact mH | apply mT | apply mA) w I) (.cons (isSl_own (by repeat first | exact mH | apply mT | apply mA) w I) (.cons (isSl_own (by repeat first | exact mH | apply mT | apply mA) w I) .nil)))))))) (by simp [putB_length]; try omega)) (fun v16 => ?_))
            refine heldN_of (by repeat first | exact sR | exact sN | apply sC | apply sS | apply sA) ?_
            refine take 26 rfl (by kernel_rfl) (by kernel_rfl) (by kernel_rfl) (by repeat first | exact sR | exact sN | apply sC | apply sS | apply sA) (Ev.assign (.t rfl)) ?_
            refine over (by kernel_rfl) ?_
            refine pN ?_
            refine ret ?_
            refine done rfl (.tmp rfl .nil) (retOE (by repeat first | exact mH | apply mT | apply mA) ?_)
            unfold fourB
            simp only [List.flatten_cons, List.flatten_nil, List.append_nil]
          · refine (callo en45 (.cons (.t rfl) .nil) (fun w I => rbytes_ok _ w) (fun v17 => ?_))
            refine heldN_of (by repeat first | exact sR | exact sN | apply sC | apply sS | apply sA) ?_
            refine all [14, 23] (by kernel_rfl) (by decide) (.cons rfl ?_ (.cons rfl ?_ .nil))
            · refine (buildSlice (E := u8E) Try.underlying27 ty5 z5 (.cons (.c (v := U8 64) rfl) (.cons (.c (v := U8 0) rfl) (.cons (.t rfl) (.cons (.t rfl) .nil)))) rfl rfl (fun v18 => ?_))
              refine heldN_of (by repeat first | exact sR | exact sN | apply sC | apply sS | apply sA) ?_
              refine all [23] (by kernel_rfl) (by decide) (.cons rfl ?_ .nil)
              refine (callo en45 (.cons (.t rfl) .nil) (fun w I => rbytes_ok _ w) (fun v19 => ?_))
              refine heldN_of (by repeat first | exact sR | exact sN | apply sC | apply sS | apply sA) ?_
              refine all [24] (by kernel_rfl) (by decide) (.cons rfl ?_ .nil)
              refine (buildSlice (E := (ovE nilSl)) Try.underlying79 ty27 z27 (.cons (.t rfl) (.cons (.t rfl) (.cons (.t rfl) (.cons (.t rfl) (.cons (.t rfl) (.cons (.t rfl) (.cons (.t rfl) .nil))))))) rfl rfl (fun v20 => ?_))
              refine heldN_of (by repeat first | exact sR | exact sN | apply sC | apply sS | apply sA) ?_
              refine all [25] (by kernel_rfl) (by decide) (.cons rfl ?_ .nil)
              refine (callo en43 (.cons (.t rfl) .nil) (fun w I => join_ok _ _ w (IsSS.mk' (isSl_own (by repeat first | exact mH | apply mT | apply mA) w I) (.cons (isSl_own (by repeat first | exact mH | apply mT | apply mA) w I) (.cons (isSl_own (by repeat first | exact mH | apply mT | apply mA) w I) (.cons (isSl_own (by repeat first | exact mH | apply mT | apply mA) w I) (.cons (isSl_own (by repeat first | exact mH | apply mT | apply mA) w I) (.cons (isSl_own (by repeat first | exact mH | apply mT | apply mA) w I) (.cons (isSl_own (by repeat first | exact mH | apply mT | apply mA) w I) (.cons (isSl_own (by repeat first | exact mH | apply mT | apply mA) w I) .nil)))))))) (by simp [putB_length]; try omega)) (fun v21 => ?_))
              refine heldN_of (by repeat first | exact sR | exact sN | apply sC | apply sS | apply sA) ?_
              refine take 26 rfl (by kernel_rfl) (by kernel_rfl) (by kernel_rfl) (by repeat first | exact sR | exact sN | apply sC | apply sS | apply sA) (Ev.assign (.t rfl)) ?_
              refine over (by kernel_rfl) ?_
              refine pN ?_
              refine ret ?_
              refine done rfl (.tmp rfl .nil) (retOE (by repeat first | exact mH | apply mT | apply mA) ?_)
              unfold fourB
              simp only [List.flatten_cons, List.flatten_nil, List.append_nil]
            · refine (callo en45 (.cons (.t rfl) .nil) (fun w I => rbytes_ok _ w) (fun v22 => ?_))
              refine heldN_of (by repeat first | exact sR | exact sN | apply sC | apply sS | apply sA) ?_
              refine all [14] (by kernel_rfl) (by decide) (.cons rfl ?_ .nil)
              refine (buildSlice (E := u8E) Try.underlying27 ty5 z5 (.cons (.c (v := U8 64) rfl) (.cons (.c (v := U8 0) rfl) (.cons (.t rfl) (.cons (.t rfl) .nil)))) rfl rfl (fun v23 => ?_))
              refine heldN_of (by repeat first | exact sR | exact sN | apply sC | apply sS | apply sA) ?_
              refine all [24] (by kernel_rfl) (by decide) (.cons rfl ?_ .nil)
              refine (buildSlice (E := (ovE nilSl)) Try.underlying79 ty27 z27 (.cons (.t rfl) (.cons (.t rfl) (.cons (.t rfl) (.cons (.t rfl) (.cons (.t rfl) (.cons (.t rfl) (.cons (.t rfl) .nil))))))) rfl rfl (fun v24 => ?_))
              refine heldN_of (by repeat first | exact sR | exact sN | apply sC | apply sS | apply sA) ?_
              refine all [25] (by kernel_rfl) (by decide) (.cons rfl ?_ .nil)
              refine (callo en43 (.cons (.t rfl) .nil) (fun w I => join_ok _ _ w (IsSS.mk' (isSl_own (by repeat first | exact mH | apply mT | apply mA) w I) (.cons (isSl_own (by repeat first | exact mH | apply mT | apply mA) w I) (.cons (isSl_own (by repeat first | exact mH | apply mT | apply mA) w I) (.cons (isSl_own (by repeat first | exact mH | apply mT | apply mA) w I) (.cons (isSl_own (by repeat first | exact mH | apply mT | apply mA) w I) (.cons (isSl_own (by repeat first | exact mH | apply mT | apply mA) w I) (.cons (isSl_own (by repeat first | exact mH | apply mT | apply mA) w I) (.cons (isSl_own (by repeat first | exact mH | apply mT | apply mA) w I) .nil)))))))) (by simp [putB_length]; try omega)) (fun v25 => ?_))
              refine heldN_of (by repeat first | exact sR | exact sN | apply sC | apply sS | apply sA) ?_
              refine take 26 rfl (by kernel_rfl) (by kernel_rfl) (by kernel_rfl) (by repeat first | exact sR | exact sN | apply sC | apply sS | apply sA) (Ev.assign (.t rfl)) ?_
              refine over (by kernel_rfl) ?_
              refine pN ?_
              refine ret ?_
              refine done rfl (.tmp rfl .nil) (retOE (by repeat first | exact mH | apply mT | apply mA) ?_)
              unfold fourB
              simp only [List.flatten_cons, List.flatten_nil, List.append_nil]
      · refine (buildSlice (E := u8E) Try.underlying27 ty5 z5 (.cons (.c (v := U8 64) rfl) (.cons (.c (v := U8 0) rfl) (.cons (.t rfl) (.cons (.t rfl) .nil)))) rfl rfl (fun v26 => ?_))
        refine heldN_of (by repeat first | exact sR | exact sN | apply sC | apply sS | apply sA) ?_
        refine all [9] (by kernel_rfl) (by decide) (.cons rfl ?_ .nil)
        refine (callo en44 (.cons (.t rfl) (.cons (.c (v := I 2) rfl) .nil)) (fun w I => bytes_ok _ _ w (by decide)) (fun v27 => ?_))
        refine heldN_of (by repeat first | exact sR | exact sN | apply sC | apply sS | apply sA) ?_
        refine all [17] (by kernel_rfl) (by decide) (.cons rfl ?_ .nil)
        refine (callo en44 (.cons (.t rfl) (.cons (.c (v := I 2) rfl) .nil)) (fun w I => bytes_ok _ _ w (by decide)) (fun v28 => ?_))
        refine heldN_of (by repeat first | exact sR | exact sN | apply sC | apply sS | apply sA) ?_
        refine all [20] (by kernel_rfl) (by decide) (.cons rfl ?_ .nil)
        refine (callo en45 (.cons (.t rfl) .nil) (fun w I => rbytes_ok _ w) (fun v29 => ?_))
        refine heldN_of (by repeat first | exact sR | exact sN | apply sC | apply sS | apply sA) ?_
        refine all [23] (by kernel_rfl) (by decide) (.cons rfl ?_ .nil)
        refine (callo en45 (.cons (.t rfl) .nil) (fun w I => rbytes_ok _ w) (fun v30 => ?_))
        refine heldN_of (by repeat first | exact sR | exact sN | apply sC | apply sS | apply sA) ?_
        refine all [24] (by kernel_rfl) (by decide) (.cons rfl ?_ .nil)
        refine (buildSlice (E := (ovE nilSl)) Try.underlying79 ty27 z27 (.cons (.t rfl) (.cons (.t rfl) (.cons (.t rfl) (.cons (.t rfl) (.cons (.t rfl) (.cons (.t rfl) (.cons (.t rfl) .nil))))))) rfl rfl (fun v31 => ?_))
        refine heldN_of (by repeat first | exact sR | exact sN | apply sC | apply sS | apply sA) ?_
        refine all [25] (by kernel_rfl) (by decide) (.cons rfl ?_ .nil)
        refine (callo en43 (.cons (.t rfl) .nil) (fun w I => join_ok _ _ w (IsSS.mk' (isSl_own (by repeat first | exact mH | apply mT | apply mA) w I) (.cons (isSl_own (by repeat first | exact mH | apply mT | apply mA) w I) (.cons (isSl_own (by repeat first | exact mH | apply mT | apply mA) w I) (.cons (isSl_own (by repeat first | exact mH | apply mT | apply mA) w I) (.cons (isSl_own (by repeat first | exact mH | apply mT | apply mA) w I) (.cons (isSl_own (by repeat first | exact mH | apply mT | apply mA) w I) (.cons (isSl_own (by repeat first | exact mH | apply mT | apply mA) w I) (.cons (isSl_own (by repeat first | exact mH | apply mT | apply mA) w I) .nil)))))))) (by simp [putB_length]; try omega)) (fun v32 => ?_))
        refine heldN_of (by repeat first | exact sR | exact sN | apply sC | apply sS | apply sA) ?_
        refine take 26 rfl (by kernel_rfl) (by kernel_rfl) (by kernel_rfl) (by repeat first | exact sR | exact sN | apply sC | apply sS | apply sA) (Ev.assign (.t rfl)) ?_
        refine over (by kernel_rfl) ?_
        refine pN ?_
        refine ret ?_
        refine done rfl (.tmp rfl .nil) (retOE (by repeat first | exact mH | apply mT | apply mA) ?_)
        unfold fourB
        simp only [List.flatten_cons, List.flatten_nil, List.append_nil]
    · refine (buildSlice (E := u8E) Try.underlying27 ty5 z5 (.cons (.c (v := U8 64) rfl) (.cons (.c (v := U8 0) rfl) (.cons (.t rfl) (.cons (.t rfl) .nil)))) rfl rfl (fun v33 => ?_))
      refine heldN_of (by repeat first | exact sR | exact sN | apply sC | apply sS | apply sA) ?_
      refine all [5] (by kernel_rfl) (by decide) (.cons rfl ?_ .nil)
      refine (callo en44 (.cons (.t rfl) (.cons (.c (v := I 2) rfl) .nil)) (fun w I => bytes_ok _ _ w (by decide)) (fun v34 => ?_))
      refine heldN_of (by repeat first | exact sR | exact sN | apply sC | apply sS | apply sA) ?_
      refine all [9] (by kernel_rfl) (by decide) (.cons rfl ?_ .nil)
      refine (callo en44 (.cons (.t rfl) (.cons (.c (v := I 2) rfl) .nil)) (fun w I => bytes_ok _ _ w (by decide)) (fun v35 => ?_))
      refine heldN_of (by repeat first | exact sR | exact sN | apply sC | apply sS | apply sA) ?_
      refine all [17] (by kernel_rfl) (by decide) (.cons rfl ?_ .nil)
      refine (callo en44 (.cons (.t rfl) (.cons (.c (v := I 2) rfl) .nil)) (fun w I => bytes_ok _ _ w (by decide)) (fun v36 => ?_))
      refine heldN_of (by repeat first | exact sR | exact sN | apply sC | apply sS | apply sA) ?_
      refine all [20] (by kernel_rfl) (by decide) (.cons rfl ?_ .nil)
      refine (callo en45 (.cons (.t rfl) .nil) (fun w I => rbytes_ok _ w) (fun v37 => ?_))
      refine heldN_of (by repeat first | exact sR | exact sN | apply sC | apply sS | apply sA) ?_
      refine all [23] (by kernel_rfl) (by decide) (.cons rfl ?_ .nil)
      refine (callo en45 (.cons (.t rfl) .nil) (fun w I => rbytes_ok _ w) (fun v38 => ?_))
      refine heldN_of (by repeat first | exact sR | exact sN | apply sC | apply sS | apply sA) ?_
      refine all [24] (by kernel_rfl) (by decide) (.cons rfl ?_ .nil)
      refine (buildSlice (E := (ovE nilSl)) Try.underlying79 ty27 z27 (.cons (.t rfl) (.cons (.t rfl) (.cons (.t rfl) (.cons (.t rfl) (.cons (.t rfl) (.cons (.t rfl) (.cons (.t rfl) .nil))))))) rfl rfl (fun v39 => ?_))
      refine heldN_of (by repeat first | exact sR | exact sN | apply sC | apply sS | apply sA) ?_
      refine all [25] (by kernel_rfl) (by decide) (.cons rfl ?_ .nil)
      refine (callo en43 (.cons (.t rfl) .nil) (fun w I => join_ok _ _ w (IsSS.mk' (isSl_own (by repeat first | exact mH | apply mT | apply mA) w I) (.cons (isSl_own (by repeat first | exact mH | apply mT | apply mA) w I) (.cons (isSl_own (by repeat first | exact mH | apply mT | apply mA) w I) (.cons (isSl_own (by repeat first | exact mH | apply mT | apply mA) w I) (.cons (isSl_own (by repeat first | exact mH | apply mT | apply mA) w I) (.cons (isSl_own (by repeat first | exact mH | apply mT | apply mA) w I) (.cons (isSl_own (by repeat first | exact mH | apply mT | apply mA) w I) (.cons (isSl_own (by repeat first | exact mH | apply mT | apply mA) w I) .nil)))))))) (by simp [putB_length]; try omega)) (fun v40 => ?_))
      refine heldN_of (by repeat first | exact sR | exact sN | apply sC | apply sS | apply sA) ?_
      refine take 26 rfl (by kernel_rfl) (by kernel_rfl) (by kernel_rfl) (by repeat first | exact sR | exact sN | apply sC | apply sS | apply sA) (Ev.assign (.t rfl)) ?_
      refine over (by kernel_rfl) ?_
      refine pN ?_
      refine ret ?_
      refine done rfl (.tmp rfl .nil) (retOE (by repeat first | exact mH | apply mT | apply mA) ?_)
      unfold fourB
      simp only [List.flatten_cons, List.flatten_nil, List.append_nil]
  · refine (callo en44 (.cons (.t rfl) (.cons (.c (v := I 2) rfl) .nil)) (fun w I => bytes_ok _ _ w (by decide)) (fun v41 => ?_))
    refine heldN_of (by repeat first | exact sR | exact sN | apply sC | apply sS | apply sA) ?_
    refine all [2, 9, 14] (by kernel_rfl) (by decide) (.cons rfl ?_ (.cons rfl ?_ (.cons rfl ?_ .nil)))
    · refine (buildSlice (E := u8E) Try.underlying27 ty5 z5 (.cons (.c (v := U8 69) rfl) (.cons (.t rfl) .nil)) rfl rfl (fun v42 => ?_))
      refine heldN_of (by repeat first | exact sR | exact sN | apply sC | apply sS | apply sA) ?_
      refine all [9, 14] (by kernel_rfl) (by decide) (.cons rfl ?_ (.cons rfl ?_ .nil))
      · refine (callo en44 (.cons (.t rfl) (.cons (.c (v := I 2) rfl) .nil)) (fun w I => bytes_ok _ _ w (by decide)) (fun v43 => ?_))
        refine heldN_of (by repeat first | exact sR | exact sN | apply sC | apply sS | apply sA) ?_
        refine all [14, 17] (by kernel_rfl) (by decide) (.cons rfl ?_ (.cons rfl ?_ .nil))
        · refine (buildSlice (E := u8E) Try.underlying27 ty5 z5 (.cons (.c (v := U8 64) rfl) (.cons (.c (v := U8 0) rfl) (.cons (.t rfl) (.cons (.t rfl) .nil)))) rfl rfl (fun v44 => ?_))
          refine heldN_of (by repeat first | exact sR | exact sN | apply sC | apply sS | apply sA) ?_
          refine all [17] (by kernel_rfl) (by decide) (.cons rfl ?_ .nil)
          refine (callo en44 (.cons (.t rfl) (.cons (.c (v := I 2) rfl) .nil)) (fun w I => bytes_ok _ _ w (by decide)) (fun v45 => ?_))
          refine heldN_of (by repeat first | exact sR | exact sN | apply sC | apply sS | apply sA) ?_
          refine all [20] (by kernel_rfl) (by decide) (.cons rfl ?_ .nil)
          refine (callo en45 (.cons (.t rfl) .nil) (fun w I => rbytes_ok _ w) (fun v46 => ?_))
          refine heldN_of (by repeat first | exact sR | exact sN | apply sC | apply sS | apply sA) ?_
          refine all [23] (by kernel_rfl) (by decide) (.cons rfl ?_ .nil)
          refine (callo en45 (.cons (.t rfl) .nil) (fun w I => rbytes_ok _ w) (fun v47 => ?_))
          refine heldN_of (by repeat first | exact sR | exact sN | apply sC | apply sS | apply sA) ?_
          refine all [24] (by kernel_rfl) (by decide) (.cons rfl ?_ .nil)
          refine (buildSlice (E := (ovE nilSl)) Try.underlying79 ty27 z27 (.cons (.t rfl) (.cons (.t rfl) (.cons (.t rfl) (.cons (.t rfl) (.cons (.t rfl) (.cons (.t rfl) (.cons (.t rfl) .nil))))))) rfl rfl (fun v48 => ?_))
          refine heldN_of (by repeat first | exact sR | exact sN | apply sC | apply sS | apply sA) ?_
          refine all [25] (by kernel_rfl) (by decide) (.cons rfl ?_ .nil)
          refine (callo en43 (.cons (.t rfl) .nil) (fun w I => join_ok _ _ w (IsSS.mk' (isSl_own (by repeat first | exact mH | apply mT | apply mA) w I) (.cons (isSl_own (by repeat first | exact mH | apply mT | apply mA) w I) (.cons (isSl_own (by repeat first | exact mH | apply mT | apply mA) w I) (.cons (isSl_own (by repeat first | exact mH | apply mT | apply mA) w I) (.cons (isSl_own (by repeat first | exact mH | apply mT | apply mA) w I) (.cons (isSl_own (by repeat first | exact mH | apply mT | apply mA) w I) (.cons (isSl_own (by repeat first | exact mH | apply mT | apply mA) w I) (.cons (isSl_own (by repeat first | exact mH | apply mT | apply mA) w I) .nil)))))))) (by simp [putB_length]; try omega)) (fun v49 => ?_))
          refine heldN_of (by repeat first | exact sR | exact sN | apply sC | apply sS | apply sA) ?_
          refine take 26 rfl (by kernel_rfl) (by kernel_rfl) (by kernel_rfl) (by repeat first | exact sR | exact sN | apply sC | apply sS | apply sA) (Ev.assign (.t rfl)) ?_
          refine over (by kernel_rfl) ?_
          refine pN ?_
          refine ret ?_
          refine done rfl (.tmp rfl .nil) (retOE (by repeat first | exact mH | apply mT | apply mA) ?_)
          unfold fourB
          simp only [List.flatten_cons, List.flatten_nil, List.append_nil]
        · refine (callo en44 (.cons (.t rfl) (.cons (.c (v := I 2) rfl) .nil)) (fun w I => bytes_ok _ _ w (by decide)) (fun v50 => ?_))
          refine heldN_of (by repeat first | exact sR | exact sN | apply sC | apply sS | apply sA) ?_
          refine all [14, 20] (by kernel_rfl) (by decide) (.cons rfl ?_ (.cons rfl ?_ .nil))
          · refine (buildSlice (E := u8E) Try.underlying27 ty5 z5 (.cons (.c (v := U8 64) rfl) (.cons (.c (v := U8 0) rfl) (.cons (.t rfl) (.cons (.t rfl) .nil)))) rfl rfl (fun v51 => ?_))
            refine heldN_of (by repeat first | exact sR | exact sN | apply sC | apply sS | apply sA) ?_
            refine all [20] (by kernel_rfl) (by decide) (.cons rfl ?_ .nil)
            refine (callo en45 (.cons (.t rfl) .nil) (fun w I => rbytes_ok _ w) (fun v52 => ?_))
            refine heldN_of (by repeat first | exact sR | exact sN | apply sC | apply sS | apply sA) ?_
            refine all [23] (by kernel_rfl) (by decide) (.cons rfl ?_ .nil)
            refine (callo en45 (.cons (.t rfl) .nil) (fun w I => rbytes_ok _ w) (fun v53 => ?_))
            refine heldN_of (by repeat first | exact sR | exact sN | apply sC | apply sS | apply sA) ?_
            refine all [24] (by kernel_rfl) (by decide) (.cons rfl ?_ .nil)
            refine (buildSlice (E := (ovE nilSl)) Try.underlying79 ty27 z27 (.cons (.t rfl) (.cons (.t rfl) (.cons (.t rfl) (.cons (.t rfl) (.cons (.t rfl) (.cons (.t rfl) (.cons (.t rfl) .nil))))))) rfl rfl (fun v54 => ?_))
            refine heldN_of (by repeat first | exact sR | exact sN | apply sC | apply sS | apply sA) ?_
            refine all [25] (by kernel_rfl) (by decide) (.cons rfl ?_ .nil)
            refine (callo en43 (.cons (.t rfl) .nil) (fun w I => join_ok _ _ w (IsSS.mk' (isSl_own (by repeat first | exact mH | apply mT | apply mA) w I) (.cons (isSl_own (by repeat first | exact mH | apply mT | apply mA) w I) (.cons (isSl_own (by repeat first | exact mH | apply mT | apply mA) w I) (.cons (isSl_own (by repeat first | exact mH | apply mT | apply mA) w I) (.cons (isSl_own (by repeat first | exact mH | apply mT | apply mA) w I) (.cons (isSl_own (by repeat first | exact mH | apply mT | apply mA) w I) (.cons (isSl_own (by repeat first | exact mH | apply mT | apply mA) w I) (.cons (isSl_own (by repeat first | exact mH | apply mT | apply mA) w I) .nil)))))))) (by simp [putB_length]; try omega)) (fun v55 => ?_))
            refine heldN_of (by repeat first | exact sR | exact sN | apply sC | apply sS | apply sA) ?_
            refine take 26 rfl (by kernel_rfl) (by kernel_rfl) (by kernel_rfl) (by repeat first | exact sR | exact sN | apply sC | apply sS | apply sA) (Ev.assign (.t rfl)) ?_
            refine over (by kernel_rfl) ?_
            refine pN ?_
            refine ret ?_
            refine done rfl (.tmp rfl .nil) (retOE (by repeat first | exact mH | apply mT | apply mA) ?_)
            unfold fourB
            simp only [List.flatten_cons, List.flatten_nil, List.append_nil]
          · refine (callo en45 (.cons (.t rfl) .nil) (fun w I => rbytes_ok _ w) (fun v56 => ?_))
            refine heldN_of (by repeat first | exact sR | exact sN | apply sC | apply sS | apply sA) ?_
            refine all [14, 23] (by kernel_rfl) (by decide) (.cons rfl ?_ (.cons rfl ?_ .nil))
            · refine (buildSlice (E := u8E) Try.underlying27 ty5 z5 (.cons (.c (v := U8 64) rfl) (.cons (.c (v := U8 0) rfl) (.cons (.t rfl) (.cons (.t rfl) .nil)))) rfl rfl (fun v57 => ?_))
              refine heldN_of (by repeat first | exact sR | exact sN | apply sC | apply sS | apply sA) ?_
              refine all [23] (by kernel_rfl) (by decide) (.cons rfl ?_ .nil)
              refine (callo en45 (.cons (.t rfl) .nil) (fun w I => rbytes_ok _ w) (fun v58 => ?_))
              refine heldN_of (by repeat first | exact sR | exact sN | apply sC | apply sS | apply sA) ?_
              refine all [24] (by kernel_rfl) (by decide) (.cons rfl ?_ .nil)
              refine (buildSlice (E := (ovE nilSl)) Try.underlying79 ty27 z27 (.cons (.t rfl) (.cons (.t rfl) (.cons (.t rfl) (.cons (.t rfl) (.cons (.t rfl) (.cons (.t rfl) (.cons (.t rfl) .nil))))))) rfl rfl (fun v59 => ?_))
              refine heldN_of (by repeat first | exact sR | exact sN | apply sC | apply sS | apply sA) ?_
              refine all [25] (by kernel_rfl) (by decide) (.cons rfl ?_ .nil)
              refine (callo en43 (.cons (.t rfl) .nil) (fun w I => join_ok _ _ w (IsSS.mk' (isSl_own (by repeat first | exact mH | apply mT | apply mA) w I) (.cons (isSl_own (by repeat first | exact mH | apply mT | apply mA) w I) (.cons (isSl_own (by repeat first | exact mH | apply mT | apply mA) w I) (.cons (isSl_own (by repeat first | exact mH | apply mT | apply mA) w I) (.cons (isSl_own (by repeat first | exact mH | apply mT | apply mA) w I) (.cons (isSl_own (by repeat first | exact mH | apply mT | apply mA) w I) (.cons (isSl_own (by repeat first | exact mH | apply mT | apply mA) w I) (.cons (isSl_own (by repeat first | exact mH | apply mT | apply mA) w I) .nil)))))))) (by simp [putB_length]; try omega)) (fun v60 => ?_))
              refine heldN_of (by repeat first | exact sR | exact sN | apply sC | apply sS | apply sA) ?_
              refine take 26 rfl (by kernel_rfl) (by kernel_rfl) (by kernel_rfl) (by repeat first | exact sR | exact sN | apply sC | apply sS | apply sA) (Ev.assign (.t rfl)) ?_
              refine over (by kernel_rfl) ?_
              refine pN ?_
              refine ret ?_
              refine done rfl (.tmp rfl .nil) (retOE (by repeat first | exact mH | apply mT | apply mA) ?_)
              unfold fourB
              simp only [List.flatten_cons, List.flatten_nil, List.append_nil]
            · refine (callo en45 (.cons (.t rfl) .nil) (fun w I => rbytes_ok _ w) (fun v61 => ?_))
              refine heldN_of (by repeat first | exact sR | exact sN | apply sC | apply sS | apply sA) ?_
              refine all [14] (by kernel_rfl) (by decide) (.cons rfl ?_ .nil)
              refine (buildSlice (E := u8E) Try.underlying27 ty5 z5 (.cons (.c (v := U8 64) rfl) (.cons (.c (v := U8 0) rfl) (.cons (.t rfl) (.cons (.t rfl) .nil)))) rfl rfl (fun v62 => ?_))
              refine heldN_of (by repeat first | exact sR | exact sN | apply sC | apply sS | apply sA) ?_
              refine all [24] (by kernel_rfl) (by decide) (.cons rfl ?_ .nil)
              refine (buildSlice (E := (ovE nilSl)) Try.underlying79 ty27 z27 (.cons (.t rfl) (.cons (.t rfl) (.cons (.t rfl) (.cons (.t rfl) (.cons (.t rfl) (.cons (.t rfl) (.cons (.t rfl) .nil))))))) rfl rfl (fun v63 => ?_))
              refine heldN_of (by repeat first | exact sR | exact sN | apply sC | apply sS | apply sA) ?_
              refine all [25] (by kernel_rfl) (by decide) (.cons rfl ?_ .nil)
              refine (callo en43 (.cons (.t rfl) .nil) (fun w I => join_ok _ _ w (IsSS.mk' (isSl_own (by repeat first | exact mH | apply mT | apply mA) w I) (.cons (isSl_own (by repeat first | exact mH | apply mT | apply mA) w I) (.cons (isSl_own (by repeat first | exact mH | apply mT | apply mA) w I) (.cons (isSl_own (by repeat first | exact mH | apply mT | apply mA) w I) (.cons (isSl_own (by repeat first | exact mH | apply mT | apply mA) w I) (.cons (isSl_own (by repeat first | exact mH | apply mT | apply mA) w I) (.cons (isSl_own (by repeat first | exact mH | apply mT | apply mA) w I) (.cons (isSl_own (by repeat first | exact mH | apply mT | apply mA) w I) .nil)))))))) (by simp [putB_length]; try omega)) (fun v64 => ?_))
              refine heldN_of (by repeat first | exact sR | exact sN | apply sC | apply sS | apply sA) ?_
              refine take 26 rfl (by kernel_rfl) (by kernel_rfl) (by kernel_rfl) (by repeat first | exact sR | exact sN | apply sC | apply sS | apply sA) (Ev.assign (.t rfl)) ?_
              refine over (by kernel_rfl) ?_
              refine pN ?_
              refine ret ?_
              refine done rfl (.tmp rfl .nil) (retOE (by repeat first | exact mH | apply mT | apply mA) ?_)
              unfold fourB
              simp only [List.flatten_cons, List.flatten_nil, List.append_nil]
      · refine (buildSlice (E := u8E) Try.underlying27 ty5 z5 (.cons (.c (v := U8 64) rfl) (.cons (.c (v := U8 0) rfl) (.cons (.t rfl) (.cons (.t rfl) .nil)))) rfl rfl (fun v65 => ?_))
        refine heldN_of (by repeat first | exact sR | exact sN | apply sC | apply sS | apply sA) ?_
        refine all [9] (by kernel_rfl) (by decide) (.cons rfl ?_ .nil)
        refine (callo en44 (.cons (.t rfl) (.cons (.c (v := I 2) rfl) .nil)) (fun w I => bytes_ok _ _ w (by decide)) (fun v66 => ?_))
        refine heldN_of (by repeat first | exact sR | exact sN | apply sC | apply sS | apply sA) ?_
        refine all [17] (by kernel_rfl) (by decide) (.cons rfl ?_ .nil)
        refine (callo en44 (.cons (.t rfl) (.cons (.c (v := I 2) rfl) .nil)) (fun w I => bytes_ok _ _ w (by decide)) (fun v67 => ?_))
        refine heldN_of (by repeat first | exact sR | exact sN | apply sC | apply sS | apply sA) ?_
        refine all [20] (by kernel_rfl) (by decide) (.cons rfl ?_ .nil)
        refine (callo en45 (.cons (.t rfl) .nil) (fun w I => rbytes_ok _ w) (fun v68 => ?_))
        refine heldN_of (by repeat first | exact sR | exact sN | apply sC | apply sS | apply sA) ?_
        refine all [23] (by kernel_rfl) (by decide) (.cons rfl ?_ .nil)
        refine (callo en45 (.cons (.t rfl) .nil) (fun w I => rbytes_ok _ w) (fun v69 => ?_))
        refine heldN_of (by repeat first | exact sR | exact sN | apply sC | apply sS | apply sA) ?_
        refine all [24] (by kernel_rfl) (by decide) (.cons rfl ?_ .nil)
        refine (buildSlice (E := (ovE nilSl)) Try.underlying79 ty27 z27 (.cons (.t rfl) (.cons (.t rfl) (.cons (.t rfl) (.cons (.t rfl) (.cons (.t rfl) (.cons (.t rfl) (.cons (.t rfl) .nil))))))) rfl rfl (fun v70 => ?_))
        refine heldN_of (by repeat first | exact sR | exact sN | apply sC | apply sS | apply sA) ?_
        refine all [25] (by kernel_rfl) (by decide) (.cons rfl ?_ .nil)
        refine (callo en43 (.cons (.t rfl) .nil) (fun w I => join_ok _ _ w (IsSS.mk' (isSl_own (by repeat first | exact mH | apply mT | apply mA) w I) (.cons (isSl_own (by repeat first | exact mH | apply mT | apply mA) w I) (.cons (isSl_own (by repeat first | exact mH | apply mT | apply mA) w I) (.cons (isSl_own (by repeat first | exact mH | apply mT | apply mA) w I) (.cons (isSl_own (by repeat first | exact mH | apply mT | apply mA) w I) (.cons (isSl_own (by repeat first | exact mH | apply mT | apply mA) w I) (.cons (isSl_own (by repeat first | exact mH | apply mT | apply mA) w I) (.cons (isSl_own (by repeat first | exact mH | apply mT | apply mA) w I) .nil)))))))) (by simp [putB_length]; try omega)) (fun v71 => ?_))
        refine heldN_of (by repeat first | exact sR | exact sN | apply sC | apply sS | apply sA) ?_
        refine take 26 rfl (by kernel_rfl) (by kernel_rfl) (by kernel_rfl) (by repeat first | exact sR | exact sN | apply sC | apply sS | apply sA) (Ev.assign (.t rfl)) ?_
        refine over (by kernel_rfl) ?_
        refine pN ?_
        refine ret ?_
        refine done rfl (.tmp rfl .nil) (retOE (by repeat first | exact mH | apply mT | apply mA) ?_)
        unfold fourB
        simp only [List.flatten_cons, List.flatten_nil, List.append_nil]
    · refine (callo en44 (.cons (.t rfl) (.cons (.c (v := I 2) rfl) .nil)) (fun w I => bytes_ok _ _ w (by decide)) (fun v72 => ?_))
      refine heldN_of (by repeat first | exact sR | exact sN | apply sC | apply sS | apply sA) ?_
      refine all [2, 14, 17] (by kernel_rfl) (by decide) (.cons rfl ?_ (.cons rfl ?_ (.cons rfl ?_ .nil)))
      · refine (buildSlice (E := u8E) Try.underlying27 ty5 z5 (.cons (.c (v := U8 69) rfl) (.cons (.t rfl) .nil)) rfl rfl (fun v73 => ?_))
        refine heldN_of (by repeat first | exact sR | exact sN | apply sC | apply sS | apply sA) ?_
        refine all [14, 17] (by kernel_rfl) (by decide) (.cons rfl ?_ (.cons rfl ?_ .nil))
        · refine (buildSlice (E := u8E) Try.underlying27 ty5 z5 (.cons (.c (v := U8 64) rfl) (.cons (.c (v := U8 0) rfl) (.cons (.t rfl) (.cons (.t rfl) .nil)))) rfl rfl (fun v74 => ?_))
          refine heldN_of (by repeat first | exact sR | exact sN | apply sC | apply sS | apply sA) ?_
          refine all [17] (by kernel_rfl) (by decide) (.cons rfl ?_ .nil)
          refine (callo en44 (.cons (.t rfl) (.cons (.c (v := I 2) rfl) .nil)) (fun w I => bytes_ok _ _ w (by decide)) (fun v75 => ?_))
          refine heldN_of (by repeat first | exact sR | exact sN | apply sC | apply sS | apply sA) ?_
          refine all [20] (by kernel_rfl) (by decide) (.cons rfl ?_ .nil)
          refine (callo en45 (.cons (.t rfl) .nil) (fun w I => rbytes_ok _ w) (fun v76 => ?_))
          refine heldN_of (by repeat first | exact sR | exact sN | apply sC | apply sS | apply sA) ?_
          refine all [23] (by kernel_rfl) (by decide) (.cons rfl ?_ .nil)
          refine (callo en45 (.cons (.t rfl) .nil) (fun w I => rbytes_ok _ w) (fun v77 => ?_))
          refine heldN_of (by repeat first | exact sR | exact sN | apply sC | apply sS | apply sA) ?_
          refine all [24] (by kernel_rfl) (by decide) (.cons rfl ?_ .nil)
          refine (buildSlice (E := (ovE nilSl)) Try.underlying79 ty27 z27 (.cons (.t rfl) (.cons (.t rfl) (.cons (.t rfl) (.cons (.t rfl) (.cons (.t rfl) (.cons (.t rfl) (.cons (.t rfl) .nil))))))) rfl rfl (fun v78 => ?_))
          refine heldN_of (by repeat first | exact sR | exact sN | apply sC | apply sS | apply sA) ?_
          refine all [25] (by kernel_rfl) (by decide) (.cons rfl ?_ .nil)
          refine (callo en43 (.cons (.t rfl) .nil) (fun w I => join_ok _ _ w (IsSS.mk' (isSl_own (by repeat first | exact mH | apply mT | apply mA) w I) (.cons (isSl_own (by repeat first | exact mH | apply mT | apply mA) w I) (.cons (isSl_own (by repeat first | exact mH | apply mT | apply mA) w I) (.cons (isSl_own (by repeat first | exact mH | apply mT | apply mA) w I) (.cons (isSl_own (by repeat first | exact mH | apply mT | apply mA) w I) (.cons (isSl_own (by repeat first | exact mH | apply mT | apply mA) w I) (.cons (isSl_own (by repeat first | exact mH | apply mT | apply mA) w I) (.cons (isSl_own (by repeat first | exact mH | apply mT | apply mA) w I) .nil)))))))) (by simp [putB_length]; try omega)) (fun v79 => ?_))
          refine heldN_of (by repeat first | exact sR | exact sN | apply sC | apply sS | apply sA) ?_
          refine take 26 rfl (by kernel_rfl) (by kernel_rfl) (by kernel_rfl) (by repeat first | exact sR | exact sN | apply sC | apply sS | apply sA) (Ev.assign (.t rfl)) ?_
          refine over (by kernel_rfl) ?_
          refine pN ?_
          refine ret ?_
          refine done rfl (.tmp rfl .nil) (retOE (by repeat first | exact mH | apply mT | apply mA) ?_)
          unfold fourB
          simp only [List.flatten_cons, List.flatten_nil, List.append_nil]
        · refine (callo en44 (.cons (.t rfl) (.cons (.c (v := I 2) rfl) .nil)) (fun w I => bytes_ok _ _ w (by decide)) (fun v80 => ?_))
          refine heldN_of (by repeat first | exact sR | exact sN | apply sC | apply sS | apply sA) ?_
          refine all [14, 20] (by kernel_rfl) (by decide) (.cons rfl ?_ (.cons rfl ?_ .nil))
          · refine (buildSlice (E := u8E) Try.underlying27 ty5 z5 (.cons (.c (v := U8 64) rfl) (.cons (.c (v := U8 0) rfl) (.cons (.t rfl) (.cons (.t rfl) .nil)))) rfl rfl (fun v81 => ?_))
            refine heldN_of (by repeat first | exact sR | exact sN | apply sC | apply sS | apply sA) ?_
            refine all [20] (by kernel_rfl) (by decide) (.cons rfl ?_ .nil)
            refine (callo en45 (.cons (.t rfl) .nil) (fun w I => rbytes_ok _ w) (fun v82 => ?_))
            refine heldN_of (by repeat first | exact sR | exact sN | apply sC | apply sS | apply sA) ?_
            refine all [23] (by kernel_rfl) (by decide) (.cons rfl ?_ .nil)
            refine (callo en45 (.cons (.t rfl) .nil) (fun w I => rbytes_ok _ w) (fun v83 => ?_))
            refine heldN_of (by repeat first | exact sR | exact sN | apply sC | apply sS | apply sA) ?_
            refine all [24] (by kernel_rfl) (by decide) (.cons rfl ?_ .nil)
            refine (buildSlice (E := (ovE nilSl)) Try.underlying79 ty27 z27 (.cons (.t rfl) (.cons (.t rfl) (.cons (.t rfl) (.cons (.t rfl) (.cons (.t rfl) (.cons (.t rfl) (.cons (.t rfl) .nil))))))) rfl rfl (fun v84 => ?_))
            refine heldN_of (by repeat first | exact sR | exact sN | apply sC | apply sS | apply sA) ?_
            refine all [25] (by kernel_rfl) (by decide) (.cons rfl ?_ .nil)
            refine (callo en43 (.cons (.t rfl) .nil) (fun w I => join_ok _ _ w (IsSS.mk' (isSl_own (by repeat first | exact mH | apply mT | apply mA) w I) (.cons (isSl_own (by repeat first | exact mH | apply mT | apply mA) w I) (.cons (isSl_own (by repeat first | exact mH | apply mT | apply mA) w I) (.cons (isSl_own (by repeat first | exact mH | apply mT | apply mA) w I) (.cons (isSl_own (by repeat first | exact mH | apply mT | apply mA) w I) (.cons (isSl_own (by repeat first | exact mH | apply mT | apply mA) w I) (.cons (isSl_own (by repeat first | exact mH | apply mT | apply mA) w I) (.cons (isSl_own (by repeat first | exact mH | apply mT | apply mA) w I) .nil)))))))) (by simp [putB_length]; try omega)) (fun v85 => ?_))
            refine heldN_of (by repeat first | exact sR | exact sN | apply sC | apply sS | apply sA) ?_
            refine take 26 rfl (by kernel_rfl) (by kernel_rfl) (by kernel_rfl) (by repeat first | exact sR | exact sN | apply sC | apply sS | apply sA) (Ev.assign (.t rfl)) ?_
            refine over (by kernel_rfl) ?_
            refine pN ?_
            refine ret ?_
            refine done rfl (.tmp rfl .nil) (retOE (by repeat first | exact mH | apply mT | apply mA) ?_)
            unfold fourB
            simp only [List.flatten_cons, List.flatten_nil, List.append_nil]
          · refine (callo en45 (.cons (.t rfl) .nil) (fun w I => rbytes_ok _ w) (fun v86 => ?_))
            refine heldN_of (by repeat first | exact sR | exact sN | apply sC | apply sS | apply sA) ?_
            refine all [14, 23] (by kernel_rfl) (by decide) (.cons rfl ?_ (.cons rfl ?_ .nil))
            · refine (buildSlice (E := u8E) Try.underlying27 ty5 z5 (.cons (.c (v := U8 64) rfl) (.cons (.c (v := U8 0) rfl) (.cons (.t rfl) (.cons (.t rfl) .nil)))) rfl rfl (fun v87 => ?_))
              refine heldN_of (by repeat first | exact sR | exact sN | apply sC | apply sS | apply sA) ?_
              refine all [23] (by kernel_rfl) (by decide) (.cons rfl ?_ .nil)
              refine (callo en45 (.cons (.t rfl) .nil) (fun w I => rbytes_ok _ w) (fun v88 => ?_))
              refine heldN_of (by repeat first | exact sR | exact sN | apply sC | apply sS | apply sA) ?_
              refine all [24] (by kernel_rfl) (by decide) (.cons rfl ?_ .nil)
              refine (buildSlice (E := (ovE nilSl)) Try.underlying79 ty27 z27 (.cons (.t rfl) (.cons (.t rfl) (.cons (.t rfl) (.cons (.t rfl) (.cons (.t rfl) (.cons (.t rfl) (.cons (.t rfl) .nil))))))) rfl rfl (fun v89 => ?_))
              refine heldN_of (by repeat first | exact sR | exact sN | apply sC | apply sS | apply sA) ?_
              refine all [25] (by kernel_rfl) (by decide) (.cons rfl ?_ .nil)
              refine (callo en43 (.cons (.t rfl) .nil) (fun w I => join_ok _ _ w (IsSS.mk' (isSl_own (by repeat first | exact mH | apply mT | apply mA) w I) (.cons (isSl_own (by repeat first | exact mH | apply mT | apply mA) w I) (.cons (isSl_own (by repeat first | exact mH | apply mT | apply mA) w I) (.cons (isSl_own (by repeat first | exact mH | apply mT | apply mA) w I) (.cons (isSl_own (by repeat first | exact mH | apply mT | apply mA) w I) (.cons (isSl_own (by repeat first | exact mH | apply mT | apply mA) w I) (.cons (isSl_own (by repeat first | exact mH | apply mT | apply mA) w I) (.cons (isSl_own (by repeat first | exact mH | apply mT | apply mA) w I) .nil)))))))) (by simp [putB_length]; try omega)) (fun v90 => ?_))
              refine heldN_of (by repeat first | exact sR | exact sN | apply sC | apply sS | apply sA) ?_
              refine take 26 rfl (by kernel_rfl) (by kernel_rfl) (by kernel_rfl) (by repeat first | exact sR | exact sN | apply sC | apply sS | apply sA) (Ev.assign (.t rfl)) ?_
              refine over (by kernel_rfl) ?_
              refine pN ?_
              refine ret ?_
              refine done rfl (.tmp rfl .nil) (retOE (by repeat first | exact mH | apply mT | apply mA) ?_)
              unfold fourB
              simp only [List.flatten_cons, List.flatten_nil, List.append_nil]
            · refine (callo en45 (.cons (.t rfl) .nil) (fun w I => rbytes_ok _ w) (fun v91 => ?_))
              refine heldN_of (by repeat first | exact sR | exact sN | apply sC | apply sS | apply sA) ?_
              refine all [14] (by kernel_rfl) (by decide) (.cons rfl ?_ .nil)
              refine (buildSlice (E := u8E) Try.underlying27 ty5 z5 (.cons (.c (v := U8 64) rfl) (.cons (.c (v := U8 0) rfl) (.cons (.t rfl) (.cons (.t rfl) .nil)))) rfl rfl (fun v92 => ?_))
              refine heldN_of (by repeat first | exact sR | exact sN | apply sC | apply sS | apply sA) ?_
              refine all [24] (by kernel_rfl) (by decide) (.cons rfl ?_ .nil)
              refine (buildSlice (E := (ovE nilSl)) Try.underlying79 ty27 z27 (.cons (.t rfl) (.cons (.t rfl) (.cons (.t rfl) (.cons (.t rfl) (.cons (.t rfl) (.cons (.t rfl) (.cons (.t rfl) .nil))))))) rfl rfl (fun v93 => ?_))
              refine heldN_of (by repeat first | exact sR | exact sN | apply sC | apply sS | apply sA) ?_
              refine all [25] (by kernel_rfl) (by decide) (.cons rfl ?_ .nil)
              refine (callo en43 (.cons (.t rfl) .nil) (fun w I => join_ok _ _ w (IsSS.mk' (isSl_own (by repeat first | exact mH | apply mT | apply mA) w I) (.cons (isSl_own (by repeat first | exact mH | apply mT | apply mA) w I) (.cons (isSl_own (by repeat first | exact mH | apply mT | apply mA) w I) (.cons (isSl_own (by repeat first | exact mH | apply mT | apply mA) w I) (.cons (isSl_own (by repeat first | exact mH | apply mT | apply mA) w I) (.cons (isSl_own (by repeat first | exact mH | apply mT | apply mA) w I) (.cons (isSl_own (by repeat first | exact mH | apply mT | apply mA) w I) (.cons (isSl_own (by repeat first | exact mH | apply mT | apply mA) w I) .nil)))))))) (by simp [putB_length]; try omega)) (fun v94 => ?_))
              refine heldN_of (by repeat first | exact sR | exact sN | apply sC | apply sS | apply sA) ?_
              refine take 26 rfl (by kernel_rfl) (by kernel_rfl) (by kernel_rfl) (by repeat first | exact sR | exact sN | apply sC | apply sS | apply sA) (Ev.assign (.t rfl)) ?_
              refine over (by kernel_rfl) ?_
              refine pN ?_
              refine ret ?_
              refine done rfl (.tmp rfl .nil) (retOE (by repeat first | exact mH | apply mT | apply mA) ?_)
              unfold fourB
              simp only [List.flatten_cons, List.flatten_nil, List.append_nil]
      · refine (buildSlice (E := u8E) Try.underlying27 ty5 z5 (.cons (.c (v := U8 64) rfl) (.cons (.c (v := U8 0) rfl) (.cons (.t rfl) (.cons (.t rfl) .nil)))) rfl rfl (fun v95 => ?_))
        refine heldN_of (by repeat first | exact sR | exact sN | apply sC | apply sS | apply sA) ?_
        refine all [2, 17] (by kernel_rfl) (by decide) (.cons rfl ?_ (.cons rfl ?_ .nil))
        · refine (buildSlice (E := u8E) Try.underlying27 ty5 z5 (.cons (.c (v := U8 69) rfl) (.cons (.t rfl) .nil)) rfl rfl (fun v96 => ?_))
          refine heldN_of (by repeat first | exact sR | exact sN | apply sC | apply sS | apply sA) ?_
          refine all [17] (by kernel_rfl) (by decide) (.cons rfl ?_ .nil)
          refine (callo en44 (.cons (.t rfl) (.cons (.c (v := I 2) rfl) .nil)) (fun w I => bytes_ok _ _ w (by decide)) (fun v97 => ?_))
          refine heldN_of (by repeat first | exact sR | exact sN | apply sC | apply sS | apply sA) ?_
          refine all [20] (by kernel_rfl) (by decide) (.cons rfl ?_ .nil)
          refine (callo en45 (.cons (.t rfl) .nil) (fun w I => rbytes_ok _ w) (fun v98 => ?_))
          refine heldN_of (by repeat first | exact sR | exact sN | apply sC | apply sS | apply sA) ?_
          refine all [23] (by kernel_rfl) (by decide) (.cons rfl ?_ .nil)
          refine (callo en45 (.cons (.t rfl) .nil) (fun w I => rbytes_ok _ w) (fun v99 => ?_))
          refine heldN_of (by repeat first | exact sR | exact sN | apply sC | apply sS | apply sA) ?_
          refine all [24] (by kernel_rfl) (by decide) (.cons rfl ?_ .nil)
          refine (buildSlice (E := (ovE nilSl)) Try.underlying79 ty27 z27 (.cons (.t rfl) (.cons (.t rfl) (.cons (.t rfl) (.cons (.t rfl) (.cons (.t rfl) (.cons (.t rfl) (.cons (.t rfl) .nil))))))) rfl rfl (fun v100 => ?_))
          refine heldN_of (by repeat first | exact sR | exact sN | apply sC | apply sS | apply sA) ?_
          refine all [25] (by kernel_rfl) (by decide) (.cons rfl ?_ .nil)
          refine (callo en43 (.cons (.t rfl) .nil) (fun w I => join_ok _ _ w (IsSS.mk' (isSl_own (by repeat first | exact mH | apply mT | apply mA) w I) (.cons (isSl_own (by repeat first | exact mH | apply mT | apply mA) w I) (.cons (isSl_own (by repeat first | exact mH | apply mT | apply mA) w I) (.cons (isSl_own (by repeat first | exact mH | apply mT | apply mA) w I) (.cons (isSl_own (by repeat first | exact mH | apply mT | apply mA) w I) (.cons (isSl_own (by repeat first | exact mH | apply mT | apply mA) w I) (.cons (isSl_own (by repeat first | exact mH | apply mT | apply mA) w I) (.cons (isSl_own (by repeat first | exact mH | apply mT | apply mA) w I) .nil)))))))) (by simp [putB_length]; try omega)) (fun v101 => ?_))
          refine heldN_of (by repeat first | exact sR | exact sN | apply sC | apply sS | apply sA) ?_
          refine take 26 rfl (by kernel_rfl) (by kernel_rfl) (by kernel_rfl) (by repeat first | exact sR | exact sN | apply sC | apply sS | apply sA) (Ev.assign (.t rfl)) ?_
          refine over (by kernel_rfl) ?_
          refine pN ?_
          refine ret ?_
          refine done rfl (.tmp rfl .nil) (retOE (by repeat first | exact mH | apply mT | apply mA) ?_)
          unfold fourB
          simp only [List.flatten_cons, List.flatten_nil, List.append_nil]
        · refine (callo en44 (.cons (.t rfl) (.cons (.c (v := I 2) rfl) .nil)) (fun w I => bytes_ok _ _ w (by decide)) (fun v102 => ?_))
          refine heldN_of (by repeat first | exact sR | exact sN | apply sC | apply sS | apply sA) ?_
          refine all [2, 20] (by kernel_rfl) (by decide) (.cons rfl ?_ (.cons rfl ?_ .nil))
          · refine (buildSlice (E := u8E) Try.underlying27 ty5 z5 (.cons (.c (v := U8 69) rfl) (.cons (.t rfl) .nil)) rfl rfl (fun v103 => ?_))
            refine heldN_of (by repeat first | exact sR | exact sN | apply sC | apply sS | apply sA) ?_
            refine all [20] (by kernel_rfl) (by decide) (.cons rfl ?_ .nil)
            refine (callo en45 (.cons (.t rfl) .nil) (fun w I => rbytes_ok _ w) (fun v104 => ?_))
            refine heldN_of (by repeat first | exact sR | exact sN | apply sC | apply sS | apply sA) ?_
            refine all [23] (by kernel_rfl) (by decide) (.cons rfl ?_ .nil)
            refine (callo en45 (.cons (.t rfl) .nil) (fun w I => rbytes_ok _ w) (fun v105 => ?_))
            refine heldN_of (by repeat first | exact sR | exact sN | apply sC | apply sS | apply sA) ?_
            refine all [24] (by kernel_rfl) (by decide) (.cons rfl ?_ .nil)
            refine (buildSlice (E := (ovE nilSl)) Try.underlying79 ty27 z27 (.cons (.t rfl) (.cons (.t rfl) (.cons (.t rfl) (.cons (.t rfl) (.cons (.t rfl) (.cons (.t rfl) (.cons (.t rfl) .nil))))))) rfl rfl (fun v106 => ?_))
            refine heldN_of (by repeat first | exact sR | exact sN | apply sC | apply sS | apply sA) ?_
            refine all [25] (by kernel_rfl) (by decide) (.cons rfl ?_ .nil)
            refine (callo en43 (.cons (.t rfl) .nil) (fun w I => join_ok _ _ w (IsSS.mk' (isSl_own (by repeat first | exact mH | apply mT | apply mA) w I) (.cons (isSl_own (by repeat first | exact mH | apply mT | apply mA) w I) (.cons (isSl_own (by repeat first | exact mH | apply mT | apply mA) w I) (.cons (isSl_own (by repeat first | exact mH | apply mT | apply mA) w I) (.cons (isSl_own (by repeat first | exact mH | apply mT | apply mA) w I) (.cons (isSl_own (by repeat first | exact mH | apply mT | apply mA) w I) (.cons (isSl_own (by repeat first | exact mH | apply mT | apply mA) w I) (.cons (isSl_own (by repeat first | exact mH | apply mT | apply mA) w I) .nil)))))))) (by simp [putB_length]; try omega)) (fun v107 => ?_))
            refine heldN_of (by repeat first | exact sR | exact sN | apply sC | apply sS | apply sA) ?_
            refine take 26 rfl (by kernel_rfl) (by kernel_rfl) (by kernel_rfl) (by repeat first | exact sR | exact sN | apply sC | apply sS | apply sA) (Ev.assign (.t rfl)) ?_
            refine over (by kernel_rfl) ?_
            refine pN ?_
            refine ret ?_
            refine done rfl (.tmp rfl .nil) (retOE (by repeat first | exact mH | apply mT | apply mA) ?_)
            unfold fourB
            simp only [List.flatten_cons, List.flatten_nil, List.append_nil]
          · refine (callo en45 (.cons (.t rfl) .nil) (fun w I => rbytes_ok _ w) (fun v108 => ?_))
            refine heldN_of (by repeat first | exact sR | exact sN | apply sC | apply sS | apply sA) ?_
            refine all [2, 23] (by kernel_rfl) (by decide) (.cons rfl ?_ (.cons rfl ?_ .nil))
            · refine (buildSlice (E := u8E) Try.underlying27 ty5 z5 (.cons (.c (v := U8 69) rfl) (.cons (.t rfl) .nil)) rfl rfl (fun v109 => ?_))
              refine heldN_of (by repeat first | exact sR | exact sN | apply sC | apply sS | apply sA) ?_
              refine all [23] (by kernel_rfl) (by decide) (.cons rfl ?_ .nil)
              refine (callo en45 (.cons (.t rfl) .nil) (fun w I => rbytes_ok _ w) (fun v110 => ?_))
              refine heldN_of (by repeat first | exact sR | exact sN | apply sC | apply sS | apply sA) ?_
              refine all [24] (by kernel_rfl) (by decide) (.cons rfl ?_ .nil)
              refine (buildSlice (E := (ovE nilSl)) Try.underlying79 ty27 z27 (.cons (.t rfl) (.cons (.t rfl) (.cons (.t rfl) (.cons (.t rfl) (.cons (.t rfl) (.cons (.t rfl) (.cons (.t rfl) .nil))))))) rfl rfl (fun v111 => ?_))
              refine heldN_of (by repeat first | exact sR | exact sN | apply sC | apply sS | apply sA) ?_
              refine all [25] (by kernel_rfl) (by decide) (.cons rfl ?_ .nil)
              refine (callo en43 (.cons (.t rfl) .nil) (fun w I => join_ok _ _ w (IsSS.mk' (isSl_own (by repeat first | exact mH | apply mT | apply mA) w I) (.cons (isSl_own (by repeat first | exact mH | apply mT | apply mA) w I) (.cons (isSl_own (by repeat first | exact mH | apply mT | apply mA) w I) (.cons (isSl_own (by repeat first | exact mH | apply mT | apply mA) w I) (.cons (isSl_own (by repeat first | exact mH | apply mT | apply mA) w I) (.cons (isSl_own (by repeat first | exact mH | apply mT | apply mA) w I) (.cons (isSl_own (by repeat first | exact mH | apply mT | apply mA) w I) (.cons (isSl_own (by repeat first | exact mH | apply mT | apply mA) w I) .nil)))))))) (by simp [putB_length]; try omega)) (fun v112 => ?_))
              refine heldN_of (by repeat first | exact sR | exact sN | apply sC | apply sS | apply sA) ?_
              refine take 26 rfl (by kernel_rfl) (by kernel_rfl) (by kernel_rfl) (by repeat first | exact sR | exact sN | apply sC | apply sS | apply sA) (Ev.assign (.t rfl)) ?_
              refine over (by kernel_rfl) ?_
              refine pN ?_
              refine ret ?_
              refine done rfl (.tmp rfl .nil) (retOE (by repeat first | exact mH | apply mT | apply mA) ?_)
              unfold fourB
              simp only [List.flatten_cons, List.flatten_nil, List.append_nil]
            · refine (callo en45 (.cons (.t rfl) .nil) (fun w I => rbytes_ok _ w) (fun v113 => ?_))
              refine heldN_of (by repeat first | exact sR | exact sN | apply sC | apply sS | apply sA) ?_
              refine all [2] (by kernel_rfl) (by decide) (.cons rfl ?_ .nil)
              refine (buildSlice (E := u8E) Try.underlying27 ty5 z5 (.cons (.c (v := U8 69) rfl) (.cons (.t rfl) .nil)) rfl rfl (fun v114 => ?_))
              refine heldN_of (by repeat first | exact sR | exact sN | apply sC | apply sS | apply sA) ?_
              refine all [24] (by kernel_rfl) (by decide) (.cons rfl ?_ .nil)
              refine (buildSlice (E := (ovE nilSl)) Try.underlying79 ty27 z27 (.cons (.t rfl) (.cons (.t rfl) (.cons (.t rfl) (.cons (.t rfl) (.cons (.t rfl) (.cons (.t rfl) (.cons (.t rfl) .nil))))))) rfl rfl (fun v115 => ?_))
              refine heldN_of (by repeat first | exact sR | exact sN | apply sC | apply sS | apply sA) ?_
              refine all [25] (by kernel_rfl) (by decide) (.cons rfl ?_ .nil)
              refine (callo en43 (.cons (.t rfl) .nil) (fun w I => join_ok _ _ w (IsSS.mk' (isSl_own (by repeat first | exact mH | apply mT | apply mA) w I) (.cons (isSl_own (by repeat first | exact mH | apply mT | apply mA) w I) (.cons (isSl_own (by repeat first | exact mH | apply mT | apply mA) w I) (.cons (isSl_own (by repeat first | exact mH | apply mT | apply mA) w I) (.cons (isSl_own (by repeat first | exact mH | apply mT | apply mA) w I) (.cons (isSl_own (by repeat first | exact mH | apply mT | apply mA) w I) (.cons (isSl_own (by repeat first | exact mH | apply mT | apply mA) w I) (.cons (isSl_own (by repeat first | exact mH | apply mT | apply mA) w I) .nil)))))))) (by simp [putB_length]; try omega)) (fun v116 => ?_))
              refine heldN_of (by repeat first | exact sR | exact sN | apply sC | apply sS | apply sA) ?_
              refine take 26 rfl (by kernel_rfl) (by kernel_rfl) (by kernel_rfl) (by repeat first | exact sR | exact sN | apply sC | apply sS | apply sA) (Ev.assign (.t rfl)) ?_
              refine over (by kernel_rfl) ?_
              refine pN ?_
              refine ret ?_
              refine done rfl (.tmp rfl .nil) (retOE (by repeat first | exact mH | apply mT | apply mA) ?_)
              unfold fourB
              simp only [List.flatten_cons, List.flatten_nil, List.append_nil]
      · refine (callo en44 (.cons (.t rfl) (.cons (.c (v := I 2) rfl) .nil)) (fun w I => bytes_ok _ _ w (by decide)) (fun v117 => ?_))
        refine heldN_of (by repeat first | exact sR | exact sN | apply sC | apply sS | apply sA) ?_
        refine all [2, 14, 20] (by kernel_rfl) (by decide) (.cons rfl ?_ (.cons rfl ?_ (.cons rfl ?_ .nil)))
        · refine (buildSlice (E := u8E) Try.underlying27 ty5 z5 (.cons (.c (v := U8 69) rfl) (.cons (.t rfl) .nil)) rfl rfl (fun v118 => ?_))
          refine heldN_of (by repeat first | exact sR | exact sN | apply sC | apply sS | apply sA) ?_
          refine all [14, 20] (by kernel_rfl) (by decide) (.cons rfl ?_ (.cons rfl ?_ .nil))
          · refine (buildSlice (E := u8E) Try.underlying27 ty5 z5 (.cons (.c (v := U8 64) rfl) (.cons (.c (v := U8 0) rfl) (.cons (.t rfl) (.cons (.t rfl) .nil)))) rfl rfl (fun v119 => ?_))
            refine heldN_of (by repeat first | exact sR | exact sN | apply sC | apply sS | apply sA) ?_
            refine all [20] (by kernel_rfl) (by decide) (.cons rfl ?_ .nil)
            refine (callo en45 (.cons (.t rfl) .nil) (fun w I => rbytes_ok _ w) (fun v120 => ?_))
            refine heldN_of (by repeat first | exact sR | exact sN | apply sC | apply sS | apply sA) ?_
            refine all [23] (by kernel_rfl) (by decide) (.cons rfl ?_ .nil)
            refine (callo en45 (.cons (.t rfl) .nil) (fun w I => rbytes_ok _ w) (fun v121 => ?_))
            refine heldN_of (by repeat first | exact sR | exact sN | apply sC | apply sS | apply sA) ?_
            refine all [24] (by kernel_rfl) (by decide) (.cons rfl ?_ .nil)
            refine (buildSlice (E := (ovE nilSl)) Try.underlying79 ty27 z27 (.cons (.t rfl) (.cons (.t rfl) (.cons (.t rfl) (.cons (.t rfl) (.cons (.t rfl) (.cons (.t rfl) (.cons (.t rfl) .nil))))))) rfl rfl (fun v122 => ?_))
            refine heldN_of (by repeat first | exact sR | exact sN | apply sC | apply sS | apply sA) ?_
            refine all [25] (by kernel_rfl) (by decide) (.cons rfl ?_ .nil)
            refine (callo en43 (.cons (.t rfl) .nil) (fun w I => join_ok _ _ w (IsSS.mk' (isSl_own (by repeat first | exact mH | apply mT | apply mA) w I) (.cons (isSl_own (by repeat first | exact mH | apply mT | apply mA) w I) (.cons (isSl_own (by repeat first | exact mH | apply mT | apply mA) w I) (.cons (isSl_own (by repeat first | exact mH | apply mT | apply mA) w I) (.cons (isSl_own (by repeat first | exact mH | apply mT | apply mA) w I) (.cons (isSl_own (by repeat first | exact mH | apply mT | apply mA) w I) (.cons (isSl_own (by repeat first | exact mH | apply mT | apply mA) w I) (.cons (isSl_own (by repeat first | exact mH | apply mT | apply mA) w I) .nil)))))))) (by simp [putB_length]; try omega)) (fun v123 => ?_))
            refine heldN_of (by repeat first | exact sR | exact sN | apply sC | apply sS | apply sA) ?_
            refine take 26 rfl (by kernel_rfl) (by kernel_rfl) (by kernel_rfl) (by repeat first | exact sR | exact sN | apply sC | apply sS | apply sA) (Ev.assign (.t rfl)) ?_
            refine over (by kernel_rfl) ?_
            refine pN ?_
            refine ret ?_
            refine done rfl (.tmp rfl .nil) (retOE (by repeat first | exact mH | apply mT | apply mA) ?_)
            unfold fourB
            simp only [List.flatten_cons, List.flatten_nil, List.append_nil]
          · refine (callo en45 (.cons (.t rfl) .nil) (fun w I => rbytes_ok _ w) (fun v124 => ?_))
            refine heldN_of (by repeat first | exact sR | exact sN | apply sC | apply sS | apply sA) ?_
            refine all [14, 23] (by kernel_rfl) (by decide) (.cons rfl ?_ (.cons rfl ?_ .nil))
            · refine (buildSlice (E := u8E) Try.underlying27 ty5 z5 (.cons (.c (v := U8 64) rfl) (.cons (.c (v := U8 0) rfl) (.cons (.t rfl) (.cons (.t rfl) .nil)))) rfl rfl (fun v125 => ?_))
              refine heldN_of (by repeat first | exact sR | exact sN | apply sC | apply sS | apply sA) ?_
              refine all [23] (by kernel_rfl) (by decide) (.cons rfl ?_ .nil)
              refine (callo en45 (.cons (.t rfl) .nil) (fun w I => rbytes_ok _ w) (fun v126 => ?_))
              refine heldN_of (by repeat first | exact sR | exact sN | apply sC | apply sS | apply sA) ?_
              refine all [24] (by kernel_rfl) (by decide) (.cons rfl ?_ .nil)
              refine (buildSlice (E := (ovE nilSl)) Try.underlying79 ty27 z27 (.cons (.t rfl) (.cons (.t rfl) (.cons (.t rfl) (.cons (.t rfl) (.cons (.t rfl) (.cons (.t rfl) (.cons (.t rfl) .nil))))))) rfl rfl (fun v127 => ?_))
              refine heldN_of (by repeat first | exact sR | exact sN | apply sC | apply sS | apply sA) ?_
              refine all [25] (by kernel_rfl) (by decide) (.cons rfl ?_ .nil)
              refine (callo en43 (.cons (.t rfl) .nil) (fun w I => join_ok _ _ w (IsSS.mk' (isSl_own (by repeat first | exact mH | apply mT | apply mA) w I) (.cons (isSl_own (by repeat first | exact mH | apply mT | apply mA) w I) (.cons (isSl_own (by repeat first | exact mH | apply mT | apply mA) w I) (.cons (isSl_own (by repeat first | exact mH | apply mT | apply mA) w I) (.cons (isSl_own (by repeat first | exact mH | apply mT | apply mA) w I) (.cons (isSl_own (by repeat first | exact mH | apply mT | apply mA) w I) (.cons (isSl_own (by repeat first | exact mH | apply mT | apply mA) w I) (.cons (isSl_own (by repeat first | exact mH | apply mT | apply mA) w I) .nil)))))))) (by simp [putB_length]; try omega)) (fun v128 => ?_))
              refine heldN_of (by repeat first | exact sR | exact sN | apply sC | apply sS | apply sA) ?_
              refine take 26 rfl (by kernel_rfl) (by kernel_rfl) (by kernel_rfl) (by repeat first | exact sR | exact sN | apply sC | apply sS | apply sA) (Ev.assign (.t rfl)) ?_
              refine over (by kernel_rfl) ?_
              refine pN ?_
              refine ret ?_
              refine done rfl (.tmp rfl .nil) (retOE (by repeat first | exact mH | apply mT | apply mA) ?_)
              unfold fourB
              simp only [List.flatten_cons, List.flatten_nil, List.append_nil]
            · refine (callo en45 (.cons (.t rfl) .nil) (fun w I => rbytes_ok _ w) (fun v129 => ?_))
              refine heldN_of (by repeat first | exact sR | exact sN | apply sC | apply sS | apply sA) ?_
              refine all [14] (by kernel_rfl) (by decide) (.cons rfl ?_ .nil)
              refine (buildSlice (E := u8E) Try.underlying27 ty5 z5 (.cons (.c (v := U8 64) rfl) (.cons (.c (v := U8 0) rfl) (.cons (.t rfl) (.cons (.t rfl) .nil)))) rfl rfl (fun v130 => ?_))
              refine heldN_of (by repeat first | exact sR | exact sN | apply sC | apply sS | apply sA) ?_
              refine all [24] (by kernel_rfl) (by decide) (.cons rfl ?_ .nil)
              refine (buildSlice (E := (ovE nilSl)) Try.underlying79 ty27 z27 (.cons (.t rfl) (.cons (.t rfl) (.cons (.t rfl) (.cons (.t rfl) (.cons (.t rfl) (.cons (.t rfl) (.cons (.t rfl) .nil))))))) rfl rfl (fun v131 => ?_))
              refine heldN_of (by repeat first | exact sR | exact sN | apply sC | apply sS | apply sA) ?_
              refine all [25] (by kernel_rfl) (by decide) (.cons rfl ?_ .nil)
              refine (callo en43 (.cons (.t rfl) .nil) (fun w I => join_ok _ _ w (IsSS.mk' (isSl_own (by repeat first | exact mH | apply mT | apply mA) w I) (.cons (isSl_own (by repeat first | exact mH | apply mT | apply mA) w I) (.cons (isSl_own (by repeat first | exact mH | apply mT | apply mA) w I) (.cons (isSl_own (by repeat first | exact mH | apply mT | apply mA) w I) (.cons (isSl_own (by repeat first | exact mH | apply mT | apply mA) w I) (.cons (isSl_own (by repeat first | exact mH | apply mT | apply mA) w I) (.cons (isSl_own (by repeat first | exact mH | apply mT | apply mA) w I) (.cons (isSl_own (by repeat first | exact mH | apply mT | apply mA) w I) .nil)))))))) (by simp [putB_length]; try omega)) (fun v132 => ?_))
              refine heldN_of (by repeat first | exact sR | exact sN | apply sC | apply sS | apply sA) ?_
              refine take 26 rfl (by kernel_rfl) (by kernel_rfl) (by kernel_rfl) (by repeat first | exact sR | exact sN | apply sC | apply sS | apply sA) (Ev.assign (.t rfl)) ?_
              refine over (by kernel_rfl) ?_
              refine pN ?_
              refine ret ?_
              refine done rfl (.tmp rfl .nil) (retOE (by repeat first | exact mH | apply mT | apply mA) ?_)
              unfold fourB
              simp only [List.flatten_cons, List.flatten_nil, List.append_nil]
        · refine (buildSlice (E := u8E) Try.underlying27 ty5 z5 (.cons (.c (v := U8 64) rfl) (.cons (.c (v := U8 0) rfl) (.cons (.t rfl) (.cons (.t rfl) .nil)))) rfl rfl (fun v133 => ?_))
          refine heldN_of (by repeat first | exact sR | exact sN | apply sC | apply sS | apply sA) ?_
          refine all [2, 20] (by kernel_rfl) (by decide) (.cons rfl ?_ (.cons rfl ?_ .nil))
          · refine (buildSlice (E := u8E) Try.underlying27 ty5 z5 (.cons (.c (v := U8 69) rfl) (.cons (.t rfl) .nil)) rfl rfl (fun v134 => ?_))
            refine heldN_of (by repeat first | exact sR | exact sN | apply sC | apply sS | apply sA) ?_
            refine all [20] (by kernel_rfl) (by decide) (.cons rfl ?_ .nil)
            refine (callo en45 (.cons (.t rfl) .nil) (fun w I => rbytes_ok _ w) (fun v135 => ?_))
            refine heldN_of (by repeat first | exact sR | exact sN | apply sC | apply sS | apply sA) ?_
            refine all [23] (by kernel_rfl) (by decide) (.cons rfl ?_ .nil)
            refine (callo en45 (.cons (.t rfl) .nil) (fun w I => rbytes_ok _ w) (fun v136 => ?_))
            refine heldN_of (by repeat first | exact sR | exact sN | apply sC | apply sS | apply sA) ?_
            refine all [24] (by kernel_rfl) (by decide) (.cons rfl ?_ .nil)
            refine (buildSlice (E := (ovE nilSl)) Try.underlying79 ty27 z27 (.cons (.t rfl) (.cons (.t rfl) (.cons (.t rfl) (.cons (.t rfl) (.cons (.t rfl) (.cons (.t rfl) (.cons (.t rfl) .nil))))))) rfl rfl (fun v137 => ?_))
            refine heldN_of (by repeat first | exact sR | exact sN | apply sC | apply sS | apply sA) ?_
            refine all [25] (by kernel_rfl) (by decide) (.cons rfl ?_ .nil)
            refine (callo en43 (.cons (.t rfl) .nil) (fun w I => join_ok _ _ w (IsSS.mk' (isSl_own (by repeat first | exact mH | apply mT | apply mA) w I) (.cons (isSl_own (by repeat first | exact mH | apply mT | apply mA) w I) (.cons (isSl_own (by repeat first | exact mH | apply mT | apply mA) w I) (.cons (isSl_own (by repeat first | exact mH | apply mT | apply mA) w I) (.cons (isSl_own (by repeat first | exact mH | apply mT | apply mA) w I) (.cons (isSl_own (by repeat first | exact mH | apply mT | apply mA) w I) (.cons (isSl_own (by repeat first | exact mH | apply mT | apply mA) w I) (.cons (isSl_own (by repeat first | exact mH | apply mT | apply mA) w I) .nil)))))))) (by simp [putB_length]; try omega)) (fun v138 => ?_))
            refine heldN_of (by repeat first | exact sR | exact sN | apply sC | apply sS | apply sA) ?_
            refine take 26 rfl (by kernel_rfl) (by kernel_rfl) (by kernel_rfl) (by repeat first | exact sR | exact sN | apply sC | apply sS | apply sA) (Ev.assign (.t rfl)) ?_
            refine over (by kernel_rfl) ?_
            refine pN ?_
            refine ret ?_
            refine done rfl (.tmp rfl .nil) (retOE (by repeat first | exact mH | apply mT | apply mA) ?_)
            unfold fourB
            simp only [List.flatten_cons, List.flatten_nil, List.append_nil]
          · refine (callo en45 (.cons (.t rfl) .nil) (fun w I => rbytes_ok _ w) (fun v139 => ?_))
            refine heldN_of (by repeat first | exact sR | exact sN | apply sC | apply sS | apply sA) ?_
            refine all [2, 23] (by kernel_rfl) (by decide) (.cons rfl ?_ (.cons rfl ?_ .nil))
            · refine (buildSlice (E := u8E) Try.underlying27 ty5 z5 (.cons (.c (v := U8 69) rfl) (.cons (.t rfl) .nil)) rfl rfl (fun v140 => ?_))
              refine heldN_of (by repeat first | exact sR | exact sN | apply sC | apply sS | apply sA) ?_
              refine all [23] (by kernel_rfl) (by decide) (.cons rfl ?_ .nil)
              refine (callo en45 (.cons (.t rfl) .nil) (fun w I => rbytes_ok _ w) (fun v141 => ?_))
              refine heldN_of (by repeat first | exact sR | exact sN | apply sC | apply sS | apply sA) ?_
              refine all [24] (by kernel_rfl) (by decide) (.cons rfl ?_ .nil)
              refine (buildSlice (E := (ovE nilSl)) Try.underlying79 ty27 z27 (.cons (.t rfl) (.cons (.t rfl) (.cons (.t rfl) (.cons (.t rfl) (.cons (.t rfl) (.cons (.t rfl) (.cons (.t rfl) .nil))))))) rfl rfl (fun v142 => ?_))
              refine heldN_of (by repeat first | exact sR | exact sN | apply sC | apply sS | apply sA) ?_
              refine all [25] (by kernel_rfl) (by decide) (.cons rfl ?_ .nil)
              refine (callo en43 (.cons (.t rfl) .nil) (fun w I => join_ok _ _ w (IsSS.mk' (isSl_own (by repeat first | exact mH | apply mT | apply mA) w I) (.cons (isSl_own (by repeat first | exact mH | apply mT | apply mA) w I) (.cons (isSl_own (by repeat first | exact mH | apply mT | apply mA) w I) (.cons (isSl_own (by repeat first | exact mH | apply mT | apply mA) w I) (.cons (isSl_own (by repeat first | exact mH | apply mT | apply mA) w I) (.cons (isSl_own (by repeat first | exact mH | apply mT | apply mA) w I) (.cons (isSl_own (by repeat first | exact mH | apply mT | apply mA) w I) (.cons (isSl_own (by repeat first | exact mH | apply mT | apply mA) w I) .nil)))))))) (by simp [putB_length]; try omega)) (fun v143 => ?_))
              refine heldN_of (by repeat first | exact sR | exact sN | apply sC | apply sS | apply sA) ?_
              refine take 26 rfl (by kernel_rfl) (by kernel_rfl) (by kernel_rfl) (by repeat first | exact sR | exact sN | apply sC | apply sS | apply sA) (Ev.assign (.t rfl)) ?_
              refine over (by kernel_rfl) ?_
              refine pN ?_
              refine ret ?_
              refine done rfl (.tmp rfl .nil) (retOE (by repeat first | exact mH | apply mT | apply mA) ?_)
              unfold fourB
              simp only [List.flatten_cons, List.flatten_nil, List.append_nil]
            · refine (callo en45 (.cons (.t rfl) .nil) (fun w I => rbytes_ok _ w) (fun v144 => ?_))
              refine heldN_of (by repeat first | exact sR | exact sN | apply sC | apply sS | apply sA) ?_
              refine all [2] (by kernel_rfl) (by decide) (.cons rfl ?_ .nil)
              refine (buildSlice (E := u8E) Try.underlying27 ty5 z5 (.cons (.c (v := U8 69) rfl) (.cons (.t rfl) .nil)) rfl rfl (fun v145 => ?_))
              refine heldN_of (by repeat first | exact sR | exact sN | apply sC | apply sS | apply sA) ?_
              refine all [24] (by kernel_rfl) (by decide) (.cons rfl ?_ .nil)
              refine (buildSlice (E := (ovE nilSl)) Try.underlying79 ty27 z27 (.cons (.t rfl) (.cons (.t rfl) (.cons (.t rfl) (.cons (.t rfl) (.cons (.t rfl) (.cons (.t rfl) (.cons (.t rfl) .nil))))))) rfl rfl (fun v146 => ?_))
              refine heldN_of (by repeat first | exact sR | exact sN | apply sC | apply sS | apply sA) ?_
              refine all [25] (by kernel_rfl) (by decide) (.cons rfl ?_ .nil)
              refine (callo en43 (.cons (.t rfl) .nil) (fun w I => join_ok _ _ w (IsSS.mk' (isSl_own (by repeat first | exact mH | apply mT | apply mA) w I) (.cons (isSl_own (by repeat first | exact mH | apply mT | apply mA) w I) (.cons (isSl_own (by repeat first | exact mH | apply mT | apply mA) w I) (.cons (isSl_own (by repeat first | exact mH | apply mT | apply mA) w I) (.cons (isSl_own (by repeat first | exact mH | apply mT | apply mA) w I) (.cons (isSl_own (by repeat first | exact mH | apply mT | apply mA) w I) (.cons (isSl_own (by repeat first | exact mH | apply mT | apply mA) w I) (.cons (isSl_own (by repeat first | exact mH | apply mT | apply mA) w I) .nil)))))))) (by simp [putB_length]; try omega)) (fun v147 => ?_))
              refine heldN_of (by repeat first | exact sR | exact sN | apply sC | apply sS | apply sA) ?_
              refine take 26 rfl (by kernel_rfl) (by kernel_rfl) (by kernel_rfl) (by repeat first | exact sR | exact sN | apply sC | apply sS | apply sA) (Ev.assign (.t rfl)) ?_
              refine over (by kernel_rfl) ?_
              refine pN ?_
              refine ret ?_
              refine done rfl (.tmp rfl .nil) (retOE (by repeat first | exact mH | apply mT | apply mA) ?_)
              unfold fourB
              simp only [List.flatten_cons, List.flatten_nil, List.append_nil]
        · refine (callo en45 (.cons (.t rfl) .nil) (fun w I => rbytes_ok _ w) (fun v148 => ?_))
          refine heldN_of (by repeat first | exact sR | exact sN | apply sC | apply sS | apply sA) ?_
          refine all [2, 14, 23] (by kernel_rfl) (by decide) (.cons rfl ?_ (.cons rfl ?_ (.cons rfl ?_ .nil)))
          · refine (buildSlice (E := u8E) Try.underlying27 ty5 z5 (.cons (.c (v := U8 69) rfl) (.cons (.t rfl) .nil)) rfl rfl (fun v149 => ?_))
            refine heldN_of (by repeat first | exact sR | exact sN | apply sC | apply sS | apply sA) ?_
            refine all [14, 23] (by kernel_rfl) (by decide) (.cons rfl ?_ (.cons rfl ?_ .nil))
            · refine (buildSlice (E := u8E) Try.underlying27 ty5 z5 (.cons (.c (v := U8 64) rfl) (.cons (.c (v := U8 0) rfl) (.cons (.t rfl) (.cons (.t rfl) .nil)))) rfl rfl (fun v150 => ?_))
              refine heldN_of (by repeat first | exact sR | exact sN | apply sC | apply sS | apply sA) ?_
              refine all [23] (by kernel_rfl) (by decide) (.cons rfl ?_ .nil)
              refine (callo en45 (.cons (.t rfl) .nil) (fun w I => rbytes_ok _ w) (fun v151 => ?_))
              refine heldN_of (by repeat first | exact sR | exact sN | apply sC | apply sS | apply sA) ?_
              refine all [24] (by kernel_rfl) (by decide) (.cons rfl ?_ .nil)
              refine (buildSlice (E := (ovE nilSl)) Try.underlying79 ty27 z27 (.cons (.t rfl) (.cons (.t rfl) (.cons (.t rfl) (.cons (.t rfl) (.cons (.t rfl) (.cons (.t rfl) (.cons (.t rfl) .nil))))))) rfl rfl (fun v152 => ?_))
              refine heldN_of (by repeat first | exact sR | exact sN | apply sC | apply sS | apply sA) ?_
              refine all [25] (by kernel_rfl) (by decide) (.cons rfl ?_ .nil)
              refine (callo en43 (.cons (.t rfl) .nil) (fun w I => join_ok _ _ w (IsSS.mk' (isSl_own (by repeat first | exact mH | apply mT | apply mA) w I) (.cons (isSl_own (by repeat first | exact mH | apply mT | apply mA) w I) (.cons (isSl_own (by repeat first | exact mH | apply mT | apply mA) w I) (.cons (isSl_own (by repeat first | exact mH | apply mT | apply mA) w I) (.cons (isSl_own (by repeat first | exact mH | apply mT | apply mA) w I) (.cons (isSl_own (by repeat first | exact mH | apply mT | apply mA) w I) (.cons (isSl_own (by repeat first | exact mH | apply mT | apply mA) w I) (.cons (isSl_own (by repeat first | exact mH | apply mT | apply mA) w I) .nil)))))))) (by simp [putB_length]; try omega)) (fun v153 => ?_))
              refine heldN_of (by repeat first | exact sR | exact sN | apply sC | apply sS | apply sA) ?_
              refine take 26 rfl (by kernel_rfl) (by kernel_rfl) (by kernel_rfl) (by repeat first | exact sR | exact sN | apply sC | apply sS | apply sA) (Ev.assign (.t rfl)) ?_
              refine over (by kernel_rfl) ?_
              refine pN ?_
              refine ret ?_
              refine done rfl (.tmp rfl .nil) (retOE (by repeat first | exact mH | apply mT | apply mA) ?_)
              unfold fourB
              simp only [List.flatten_cons, List.flatten_nil, List.append_nil]
            · refine (callo en45 (.cons (.t rfl) .nil) (fun w I => rbytes_ok _ w) (fun v154 => ?_))
              refine heldN_of (by repeat first | exact sR | exact sN | apply sC | apply sS | apply sA) ?_
              refine all [14] (by kernel_rfl) (by decide) (.cons rfl ?_ .nil)
              refine (buildSlice (E := u8E) Try.underlying27 ty5 z5 (.cons (.c (v := U8 64) rfl) (.cons (.c (v := U8 0) rfl) (.cons (.t rfl) (.cons (.t rfl) .nil)))) rfl rfl (fun v155 => ?_))
              refine heldN_of (by repeat first | exact sR | exact sN | apply sC | apply sS | apply sA) ?_
              refine all [24] (by kernel_rfl) (by decide) (.cons rfl ?_ .nil)
              refine (buildSlice (E := (ovE nilSl)) Try.underlying79 ty27 z27 (.cons (.t rfl) (.cons (.t rfl) (.cons (.t rfl) (.cons (.t rfl) (.cons (.t rfl) (.cons (.t rfl) (.cons (.t rfl) .nil))))))) rfl rfl (fun v156 => ?_))
              refine heldN_of (by repeat first | exact sR | exact sN | apply sC | apply sS | apply sA) ?_
              refine all [25] (by kernel_rfl) (by decide) (.cons rfl ?_ .nil)
              refine (callo en43 (.cons (.t rfl) .nil) (fun w I => join_ok _ _ w (IsSS.mk' (isSl_own (by repeat first | exact mH | apply mT | apply mA) w I) (.cons (isSl_own (by repeat first | exact mH | apply mT | apply mA) w I) (.cons (isSl_own (by repeat first | exact mH | apply mT | apply mA) w I) (.cons (isSl_own (by repeat first | exact mH | apply mT | apply mA) w I) (.cons (isSl_own (by repeat first | exact mH | apply mT | apply mA) w I) (.cons (isSl_own (by repeat first | exact mH | apply mT | apply mA) w I) (.cons (isSl_own (by repeat first | exact mH | apply mT | apply mA) w I) (.cons (isSl_own (by repeat first | exact mH | apply mT | apply mA) w I) .nil)))))))) (by simp [putB_length]; try omega)) (fun v157 => ?_))
              refine heldN_of (by repeat first | exact sR | exact sN | apply sC | apply sS | apply sA) ?_
              refine take 26 rfl (by kernel_rfl) (by kernel_rfl) (by kernel_rfl) (by repeat first | exact sR | exact sN | apply sC | apply sS | apply sA) (Ev.assign (.t rfl)) ?_
              refine over (by kernel_rfl) ?_
              refine pN ?_
              refine ret ?_
              refine done rfl (.tmp rfl .nil) (retOE (by repeat first | exact mH | apply mT | apply mA) ?_)
              unfold fourB
              simp only [List.flatten_cons, List.flatten_nil, List.append_nil]
          · refine (buildSlice (E := u8E) Try.underlying27 ty5 z5 (.cons (.c (v := U8 64) rfl) (.cons (.c (v := U8 0) rfl) (.cons (.t rfl) (.cons (.t rfl) .nil)))) rfl rfl (fun v158 => ?_))
            refine heldN_of (by repeat first | exact sR | exact sN | apply sC | apply sS | apply sA) ?_
            refine all [2, 23] (by kernel_rfl) (by decide) (.cons rfl ?_ (.cons rfl ?_ .nil))
            · refine (buildSlice (E := u8E) Try.underlying27 ty5 z5 (.cons (.c (v := U8 69) rfl) (.cons (.t rfl) .nil)) rfl rfl (fun v159 => ?_))
              refine heldN_of (by repeat first | exact sR | exact sN | apply sC | apply sS | apply sA) ?_
              refine all [23] (by kernel_rfl) (by decide) (.cons rfl ?_ .nil)
              refine (callo en45 (.cons (.t rfl) .nil) (fun w I => rbytes_ok _ w) (fun v160 => ?_))
              refine heldN_of (by repeat first | exact sR | exact sN | apply sC | apply sS | apply sA) ?_
              refine all [24] (by kernel_rfl) (by decide) (.cons rfl ?_ .nil)
              refine (buildSlice (E := (ovE nilSl)) Try.underlying79 ty27 z27 (.cons (.t rfl) (.cons (.t rfl) (.cons (.t rfl) (.cons (.t rfl) (.cons (.t rfl) (.cons (.t rfl) (.cons (.t rfl) .nil))))))) rfl rfl (fun v161 => ?_))
              refine heldN_of (by repeat first | exact sR | exact sN | apply sC | apply sS | apply sA) ?_
              refine all [25] (by kernel_rfl) (by decide) (.cons rfl ?_ .nil)
              refine (callo en43 (.cons (.t rfl) .nil) (fun w I => join_ok _ _ w (IsSS.mk' (isSl_own (by repeat first | exact mH | apply mT | apply mA) w I) (.cons (isSl_own (by repeat first | exact mH | apply mT | apply mA) w I) (.cons (isSl_own (by repeat first | exact mH | apply mT | apply mA) w I) (.cons (isSl_own (by repeat first | exact mH | apply mT | apply mA) w I) (.cons (isSl_own (by repeat first | exact mH | apply mT | apply mA) w I) (.cons (isSl_own (by repeat first | exact mH | apply mT | apply mA) w I) (.cons (isSl_own (by repeat first | exact mH | apply mT | apply mA) w I) (.cons (isSl_own (by repeat first | exact mH | apply mT | apply mA) w I) .nil)))))))) (by simp [putB_length]; try omega)) (fun v162 => ?_))
              refine heldN_of (by repeat first | exact sR | exact sN | apply sC | apply sS | apply sA) ?_
              refine take 26 rfl (by kernel_rfl) (by kernel_rfl) (by kernel_rfl) (by repeat first | exact sR | exact sN | apply sC | apply sS | apply sA) (Ev.assign (.t rfl)) ?_
              refine over (by kernel_rfl) ?_
              refine pN ?_
              refine ret ?_
              refine done rfl (.tmp rfl .nil) (retOE (by repeat first | exact mH | apply mT | apply mA) ?_)
              unfold fourB
              simp only [List.flatten_cons, List.flatten_nil, List.append_nil]
            · refine (callo en45 (.cons (.t rfl) .nil) (fun w I => rbytes_ok _ w) (fun v163 => ?_))
              refine heldN_of (by repeat first | exact sR | exact sN | apply sC | apply sS | apply sA) ?_
              refine all [2] (by kernel_rfl) (by decide) (.cons rfl ?_ .nil)
              refine (buildSlice (E := u8E) Try.underlying27 ty5 z5 (.cons (.c (v := U8 69) rfl) (.cons (.t rfl) .nil)) rfl rfl (fun v164 => ?_))
              refine heldN_of (by repeat first | exact sR | exact sN | apply sC | apply sS | apply sA) ?_
              refine all [24] (by kernel_rfl) (by decide) (.cons rfl ?_ .nil)
              refine (buildSlice (E := (ovE nilSl)) Try.underlying79 ty27 z27 (.cons (.t rfl) (.cons (.t rfl) (.cons (.t rfl) (.cons (.t rfl) (.cons (.t rfl) (.cons (.t rfl) (.cons (.t rfl) .nil))))))) rfl rfl (fun v165 => ?_))
              refine heldN_of (by repeat first | exact sR | exact sN | apply sC | apply sS | apply sA) ?_
              refine all [25] (by kernel_rfl) (by decide) (.cons rfl ?_ .nil)
              refine (callo en43 (.cons (.t rfl) .nil) (fun w I => join_ok _ _ w (IsSS.mk' (isSl_own (by repeat first | exact mH | apply mT | apply mA) w I) (.cons (isSl_own (by repeat first | exact mH | apply mT | apply mA) w I) (.cons (isSl_own (by repeat first | exact mH | apply mT | apply mA) w I) (.cons (isSl_own (by repeat first | exact mH | apply mT | apply mA) w I) (.cons (isSl_own (by repeat first | exact mH | apply mT | apply mA) w I) (.cons (isSl_own (by repeat first | exact mH | apply mT | apply mA) w I) (.cons (isSl_own (by repeat first | exact mH | apply mT | apply mA) w I) (.cons (isSl_own (by repeat first | exact mH | apply mT | apply mA) w I) .nil)))))))) (by simp [putB_length]; try omega)) (fun v166 => ?_))
              refine heldN_of (by repeat first | exact sR | exact sN | apply sC | apply sS | apply sA) ?_
              refine take 26 rfl (by kernel_rfl) (by kernel_rfl) (by kernel_rfl) (by repeat first | exact sR | exact sN | apply sC | apply sS | apply sA) (Ev.assign (.t rfl)) ?_
              refine over (by kernel_rfl) ?_
              refine pN ?_
              refine ret ?_
              refine done rfl (.tmp rfl .nil) (retOE (by repeat first | exact mH | apply mT | apply mA) ?_)
              unfold fourB
              simp only [List.flatten_cons, List.flatten_nil, List.append_nil]
          · refine (callo en45 (.cons (.t rfl) .nil) (fun w I => rbytes_ok _ w) (fun v167 => ?_))
            refine heldN_of (by repeat first | exact sR | exact sN | apply sC | apply sS | apply sA) ?_
            refine all [2, 14] (by kernel_rfl) (by decide) (.cons rfl ?_ (.cons rfl ?_ .nil))
            · refine (buildSlice (E := u8E) Try.underlying27 ty5 z5 (.cons (.c (v := U8 69) rfl) (.cons (.t rfl) .nil)) rfl rfl (fun v168 => ?_))
              refine heldN_of (by repeat first | exact sR | exact sN | apply sC | apply sS | apply sA) ?_
              refine all [14] (by kernel_rfl) (by decide) (.cons rfl ?_ .nil)
              refine (buildSlice (E := u8E) Try.underlying27 ty5 z5 (.cons (.c (v := U8 64) rfl) (.cons (.c (v := U8 0) rfl) (.cons (.t rfl) (.cons (.t rfl) .nil)))) rfl rfl (fun v169 => ?_))
              refine heldN_of (by repeat first | exact sR | exact sN | apply sC | apply sS | apply sA) ?_
              refine all [24] (by kernel_rfl) (by decide) (.cons rfl ?_ .nil)
              refine (buildSlice (E := (ovE nilSl)) Try.underlying79 ty27 z27 (.cons (.t rfl) (.cons (.t rfl) (.cons (.t rfl) (.cons (.t rfl) (.cons (.t rfl) (.cons (.t rfl) (.cons (.t rfl) .nil))))))) rfl rfl (fun v170 => ?_))
              refine heldN_of (by repeat first | exact sR | exact sN | apply sC | apply sS | apply sA) ?_
              refine all [25] (by kernel_rfl) (by decide) (.cons rfl ?_ .nil)
              refine (callo en43 (.cons (.t rfl) .nil) (fun w I => join_ok _ _ w (IsSS.mk' (isSl_own (by repeat first | exact mH | apply mT | apply mA) w I) (.cons (isSl_own (by repeat first | exact mH | apply mT | apply mA) w I) (.cons (isSl_own (by repeat first | exact mH | apply mT | apply mA) w I) (.cons (isSl_own (by repeat first | exact mH | apply mT | apply mA) w I) (.cons (isSl_own (by repeat first | exact mH | apply mT | apply mA) w I) (.cons (isSl_own (by repeat first | exact mH | apply mT | apply mA) w I) (.cons (isSl_own (by repeat first | exact mH | apply mT | apply mA) w I) (.cons (isSl_own (by repeat first | exact mH | apply mT | apply mA) w I) .nil)))))))) (by simp [putB_length]; try omega)) (fun v171 => ?_))
              refine heldN_of (by repeat first | exact sR | exact sN | apply sC | apply sS | apply sA) ?_
              refine take 26 rfl (by kernel_rfl) (by kernel_rfl) (by kernel_rfl) (by repeat first | exact sR | exact sN | apply sC | apply sS | apply sA) (Ev.assign (.t rfl)) ?_
              refine over (by kernel_rfl) ?_
              refine pN ?_
              refine ret ?_
              refine done rfl (.tmp rfl .nil) (retOE (by repeat first | exact mH | apply mT | apply mA) ?_)
              unfold fourB
              simp only [List.flatten_cons, List.flatten_nil, List.append_nil]
            · refine (buildSlice (E := u8E) Try.underlying27 ty5 z5 (.cons (.c (v := U8 64) rfl) (.cons (.c (v := U8 0) rfl) (.cons (.t rfl) (.cons (.t rfl) .nil)))) rfl rfl (fun v172 => ?_))
              refine heldN_of (by repeat first | exact sR | exact sN | apply sC | apply sS | apply sA) ?_
              refine all [2] (by kernel_rfl) (by decide) (.cons rfl ?_ .nil)
              refine (buildSlice (E := u8E) Try.underlying27 ty5 z5 (.cons (.c (v := U8 69) rfl) (.cons (.t rfl) .nil)) rfl rfl (fun v173 => ?_))
              refine heldN_of (by repeat first | exact sR | exact sN | apply sC | apply sS | apply sA) ?_
              refine all [24] (by kernel_rfl) (by decide) (.cons rfl ?_ .nil)
              refine (buildSlice (E := (ovE nilSl)) Try.underlying79 ty27 z27 (.cons (.t rfl) (.cons (.t rfl) (.cons (.t rfl) (.cons (.t rfl) (.cons (.t rfl) (.cons (.t rfl) (.cons (.t rfl) .nil))))))) rfl rfl (fun v174 => ?_))
              refine heldN_of (by repeat first | exact sR | exact sN | apply sC | apply sS | apply sA) ?_
              refine all [25] (by kernel_rfl) (by decide) (.cons rfl ?_ .nil)
              refine (callo en43 (.cons (.t rfl) .nil) (fun w I => join_ok _ _ w (IsSS.mk' (isSl_own (by repeat first | exact mH | apply mT | apply mA) w I) (.cons (isSl_own (by repeat first | exact mH | apply mT | apply mA) w I) (.cons (isSl_own (by repeat first | exact mH | apply mT | apply mA) w I) (.cons (isSl_own (by repeat first | exact mH | apply mT | apply mA) w I) (.cons (isSl_own (by repeat first | exact mH | apply mT | apply mA) w I) (.cons (isSl_own (by repeat first | exact mH | apply mT | apply mA) w I) (.cons (isSl_own (by repeat first | exact mH | apply mT | apply mA) w I) (.cons (isSl_own (by repeat first | exact mH | apply mT | apply mA) w I) .nil)))))))) (by simp [putB_length]; try omega)) (fun v175 => ?_))
              refine heldN_of (by repeat first | exact sR | exact sN | apply sC | apply sS | apply sA) ?_
              refine take 26 rfl (by kernel_rfl) (by kernel_rfl) (by kernel_rfl) (by repeat first | exact sR | exact sN | apply sC | apply sS | apply sA) (Ev.assign (.t rfl)) ?_
              refine over (by kernel_rfl) ?_
              refine pN ?_
              refine ret ?_
              refine done rfl (.tmp rfl .nil) (retOE (by repeat first | exact mH | apply mT | apply mA) ?_)
              unfold fourB
              simp only [List.flatten_cons, List.flatten_nil, List.append_nil]
    · refine (buildSlice (E := u8E) Try.underlying27 ty5 z5 (.cons (.c (v := U8 64) rfl) (.cons (.c (v := U8 0) rfl) (.cons (.t rfl) (.cons (.t rfl) .nil)))) rfl rfl (fun v176 => ?_))
      refine heldN_of (by repeat first | exact sR | exact sN | apply sC | apply sS | apply sA) ?_
      refine all [2, 9] (by kernel_rfl) (by decide) (.cons rfl ?_ (.cons rfl ?_ .nil))
      · refine (buildSlice (E := u8E) Try.underlying27 ty5 z5 (.cons (.c (v := U8 69) rfl) (.cons (.t rfl) .nil)) rfl rfl (fun v177 => ?_))
        refine heldN_of (by repeat first | exact sR | exact sN | apply sC | apply sS | apply sA) ?_
        refine all [9] (by kernel_rfl) (by decide) (.cons rfl ?_ .nil)
        refine (callo en44 (.cons (.t rfl) (.cons (.c (v := I 2) rfl) .nil)) (fun w I => bytes_ok _ _ w (by decide)) (fun v178 => ?_))
        refine heldN_of (by repeat first | exact sR | exact sN | apply sC | apply sS | apply sA) ?_
        refine all [17] (by kernel_rfl) (by decide) (.cons rfl ?_ .nil)
        refine (callo en44 (.cons (.t rfl) (.cons (.c (v := I 2) rfl) .nil)) (fun w I => bytes_ok _ _ w (by decide)) (fun v179 => ?_))
        refine heldN_of (by repeat first | exact sR | exact sN | apply sC | apply sS | apply sA) ?_
        refine all [20] (by kernel_rfl) (by decide) (.cons rfl ?_ .nil)
        refine (callo en45 (.cons (.t rfl) .nil) (fun w I => rbytes_ok _ w) (fun v180 => ?_))
        refine heldN_of (by repeat first | exact sR | exact sN | apply sC | apply sS | apply sA) ?_
        refine all [23] (by kernel_rfl) (by decide) (.cons rfl ?_ .nil)
        refine (callo en45 (.cons (.t rfl) .nil) (fun w I => rbytes_ok _ w) (fun v181 => ?_))
        refine heldN_of (by repeat first | exact sR | exact sN | apply sC | apply sS | apply sA) ?_
        refine all [24] (by kernel_rfl) (by decide) (.cons rfl ?_ .nil)
        refine (buildSlice (E := (ovE nilSl)) Try.underlying79 ty27 z27 (.cons (.t rfl) (.cons (.t rfl) (.cons (.t rfl) (.cons (.t rfl) (.cons (.t rfl) (.cons (.t rfl) (.cons (.t rfl) .nil))))))) rfl rfl (fun v182 => ?_))
        refine heldN_of (by repeat first | exact sR | exact sN | apply sC | apply sS | apply sA) ?_
        refine all [25] (by kernel_rfl) (by decide) (.cons rfl ?_ .nil)
        refine (callo en43 (.cons (.t rfl) .nil) (fun w I => join_ok _ _ w (IsSS.mk' (isSl_own (by repeat first | exact mH | apply mT | apply mA) w I) (.cons (isSl_own (by repeat first | exact mH | apply mT | apply mA) w I) (.cons (isSl_own (by repeat first | exact mH | apply mT | apply mA) w I) (.cons (isSl_own (by repeat first | exact mH | apply mT | apply mA) w I) (.cons (isSl_own (by repeat first | exact mH | apply mT | apply mA) w I) (.cons (isSl_own (by repeat first | exact mH | apply mT | apply mA) w I) (.cons (isSl_own (by repeat first | exact mH | apply mT | apply mA) w I) (.cons (isSl_own (by repeat first | exact mH | apply mT | apply mA) w I) .nil)))))))) (by simp [putB_length]; try omega)) (fun v183 => ?_))
        refine heldN_of (by repeat first | exact sR | exact sN | apply sC | apply sS | apply sA) ?_
        refine take 26 rfl (by kernel_rfl) (by kernel_rfl) (by kernel_rfl) (by repeat first | exact sR | exact sN | apply sC | apply sS | apply sA) (Ev.assign (.t rfl)) ?_
        refine over (by kernel_rfl) ?_
        refine pN ?_
        refine ret ?_
        refine done rfl (.tmp rfl .nil) (retOE (by repeat first | exact mH | apply mT | apply mA) ?_)
        unfold fourB
        simp only [List.flatten_cons, List.flatten_nil, List.append_nil]
      · refine (callo en44 (.cons (.t rfl) (.cons (.c (v := I 2) rfl) .nil)) (fun w I => bytes_ok _ _ w (by decide)) (fun v184 => ?_))
        refine heldN_of (by repeat first | exact sR | exact sN | apply sC | apply sS | apply sA) ?_
        refine all [2, 17] (by kernel_rfl) (by decide) (.cons rfl ?_ (.cons rfl ?_ .nil))
        · refine (buildSlice (E := u8E) Try.underlying27 ty5 z5 (.cons (.c (v := U8 69) rfl) (.cons (.t rfl) .nil)) rfl rfl (fun v185 => ?_))
          refine heldN_of (by repeat first | exact sR | exact sN | apply sC | apply sS | apply sA) ?_
          refine all [17] (by kernel_rfl) (by decide) (.cons rfl ?_ .nil)
          refine (callo en44 (.cons (.t rfl) (.cons (.c (v := I 2) rfl) .nil)) (fun w I => bytes_ok _ _ w (by decide)) (fun v186 => ?_))
          refine heldN_of (by repeat first | exact sR | exact sN | apply sC | apply sS | apply sA) ?_
          refine all [20] (by kernel_rfl) (by decide) (.cons rfl ?_ .nil)
          refine (callo en45 (.cons (.t rfl) .nil) (fun w I => rbytes_ok _ w) (fun v187 => ?_))
          refine heldN_of (by repeat first | exact sR | exact sN | apply sC | apply sS | apply sA) ?_
          refine all [23] (by kernel_rfl) (by decide) (.cons rfl ?_ .nil)
          refine (callo en45 (.cons (.t rfl) .nil) (fun w I => rbytes_ok _ w) (fun v188 => ?_))
          refine heldN_of (by repeat first | exact sR | exact sN | apply sC | apply sS | apply sA) ?_
          refine all [24] (by kernel_rfl) (by decide) (.cons rfl ?_ .nil)
          refine (buildSlice (E := (ovE nilSl)) Try.underlying79 ty27 z27 (.cons (.t rfl) (.cons (.t rfl) (.cons (.t rfl) (.cons (.t rfl) (.cons (.t rfl) (.cons (.t rfl) (.cons (.t rfl) .nil))))))) rfl rfl (fun v189 => ?_))
          refine heldN_of (by repeat first | exact sR | exact sN | apply sC | apply sS | apply sA) ?_
          refine all [25] (by kernel_rfl) (by decide) (.cons rfl ?_ .nil)
          refine (callo en43 (.cons (.t rfl) .nil) (fun w I => join_ok _ _ w (IsSS.mk' (isSl_own (by repeat first | exact mH | apply mT | apply mA) w I) (.cons (isSl_own (by repeat first | exact mH | apply mT | apply mA) w I) (.cons (isSl_own (by repeat first | exact mH | apply mT | apply mA) w I) (.cons (isSl_own (by repeat first | exact mH | apply mT | apply mA) w I) (.cons (isSl_own (by repeat first | exact mH | apply mT | apply mA) w I) (.cons (isSl_own (by repeat first | exact mH | apply mT | apply mA) w I) (.cons (isSl_own (by repeat first | exact mH | apply mT | apply mA) w I) (.cons (isSl_own (by repeat first | exact mH | apply mT | apply mA) w I) .nil)))))))) (by simp [putB_length]; try omega)) (fun v190 => ?_))
          refine heldN_of (by repeat first | exact sR | exact sN | apply sC | apply sS | apply sA) ?_
          refine take 26 rfl (by kernel_rfl) (by kernel_rfl) (by kernel_rfl) (by repeat first | exact sR | exact sN | apply sC | apply sS | apply sA) (Ev.assign (.t rfl)) ?_
          refine over (by kernel_rfl) ?_
          refine pN ?_
          refine ret ?_
          refine done rfl (.tmp rfl .nil) (retOE (by repeat first | exact mH | apply mT | apply mA) ?_)
          unfold fourB
          simp only [List.flatten_cons, List.flatten_nil, List.append_nil]
        · refine (callo en44 (.cons (.t rfl) (.cons (.c (v := I 2) rfl) .nil)) (fun w I => bytes_ok _ _ w (by decide)) (fun v191 => ?_))
          refine heldN_of (by repeat first | exact sR | exact sN | apply sC | apply sS | apply sA) ?_
          refine all [2, 20] (by kernel_rfl) (by decide) (.cons rfl ?_ (.cons rfl ?_ .nil))
          · refine (buildSlice (E := u8E) Try.underlying27 ty5 z5 (.cons (.c (v := U8 69) rfl) (.cons (.t rfl) .nil)) rfl rfl (fun v192 => ?_))
            refine heldN_of (by repeat first | exact sR | exact sN | apply sC | apply sS | apply sA) ?_
            refine all [20] (by kernel_rfl) (by decide) (.cons rfl ?_ .nil)
            refine (callo en45 (.cons (.t rfl) .nil) (fun w I => rbytes_ok _ w) (fun v193 => ?_))
            refine heldN_of (by repeat first | exact sR | exact sN | apply sC | apply sS | apply sA) ?_
            refine all [23] (by kernel_rfl) (by decide) (.cons rfl ?_ .nil)
            refine (callo en45 (.cons (.t rfl) .nil) (fun w I => rbytes_ok _ w) (fun v194 => ?_))
            refine heldN_of (by repeat first | exact sR | exact sN | apply sC | apply sS | apply sA) ?_
            refine all [24] (by kernel_rfl) (by decide) (.cons rfl ?_ .nil)
            refine (buildSlice (E := (ovE nilSl)) Try.underlying79 ty27 z27 (.cons (.t rfl) (.cons (.t rfl) (.cons (.t rfl) (.cons (.t rfl) (.cons (.t rfl) (.cons (.t rfl) (.cons (.t rfl) .nil))))))) rfl rfl (fun v195 => ?_))
            refine heldN_of (by repeat first | exact sR | exact sN | apply sC | apply sS | apply sA) ?_
            refine all [25] (by kernel_rfl) (by decide) (.cons rfl ?_ .nil)
            refine (callo en43 (.cons (.t rfl) .nil) (fun w I => join_ok _ _ w (IsSS.mk' (isSl_own (by repeat first | exact mH | apply mT | apply mA) w I) (.cons (isSl_own (by repeat first | exact mH | apply mT | apply mA) w I) (.cons (isSl_own (by repeat first | exact mH | apply mT | apply mA) w I) (.cons (isSl_own (by repeat first | exact mH | apply mT | apply mA) w I) (.cons (isSl_own (by repeat first | exact mH | apply mT | apply mA) w I) (.cons (isSl_own (by repeat first | exact mH | apply mT | apply mA) w I) (.cons (isSl_own (by repeat first | exact mH | apply mT | apply mA) w I) (.cons (isSl_own (by repeat first | exact mH | apply mT | apply mA) w I) .nil)))))))) (by simp [putB_length]; try omega)) (fun v196 => ?_))
            refine heldN_of (by repeat first | exact sR | exact sN | apply sC | apply sS | apply sA) ?_
            refine take 26 rfl (by kernel_rfl) (by kernel_rfl) (by kernel_rfl) (by repeat first | exact sR | exact sN | apply sC | apply sS | apply sA) (Ev.assign (.t rfl)) ?_
            refine over (by kernel_rfl) ?_
            refine pN ?_
            refine ret ?_
            refine done rfl (.tmp rfl .nil) (retOE (by repeat first | exact mH | apply mT | apply mA) ?_)
            unfold fourB
            simp only [List.flatten_cons, List.flatten_nil, List.append_nil]
          · refine (callo en45 (.cons (.t rfl) .nil) (fun w I => rbytes_ok _ w) (fun v197 => ?_))
            refine heldN_of (by repeat first | exact sR | exact sN | apply sC | apply sS | apply sA) ?_
            refine all [2, 23] (by kernel_rfl) (by decide) (.cons rfl ?_ (.cons rfl ?_ .nil))
            · refine (buildSlice (E := u8E) Try.underlying27 ty5 z5 (.cons (.c (v := U8 69) rfl) (.cons (.t rfl) .nil)) rfl rfl (fun v198 => ?_))
              refine heldN_of (by repeat first | exact sR | exact sN | apply sC | apply sS | apply sA) ?_
              refine all [23] (by kernel_rfl) (by decide) (.cons rfl ?_ .nil)
              refine (callo en45 (.cons (.t rfl) .nil) (fun w I => rbytes_ok _ w) (fun v199 => ?_))
              refine heldN_of (by repeat first | exact sR | exact sN | apply sC | apply sS | apply sA) ?_
              refine all [24] (by kernel_rfl) (by decide) (.cons rfl ?_ .nil)
              refine (buildSlice (E := (ovE nilSl)) Try.underlying79 ty27 z27 (.cons (.t rfl) (.cons (.t rfl) (.cons (.t rfl) (.cons (.t rfl) (.cons (.t rfl) (.cons (.t rfl) (.cons (.t rfl) .nil))))))) rfl rfl (fun v200 => ?_))
              refine heldN_of (by repeat first | exact sR | exact sN | apply sC | apply sS | apply sA) ?_
              refine all [25] (by kernel_rfl) (by decide) (.cons rfl ?_ .nil)
              refine (callo en43 (.cons (.t rfl) .nil) (fun w I => join_ok _ _ w (IsSS.mk' (isSl_own (by repeat first | exact mH | apply mT | apply mA) w I) (.cons (isSl_own (by repeat first | exact mH | apply mT | apply mA) w I) (.cons (isSl_own (by repeat first | exact mH | apply mT | apply mA) w I) (.cons (isSl_own (by repeat first | exact mH | apply mT | apply mA) w I) (.cons (isSl_own (by repeat first | exact mH | apply mT | apply mA) w I) (.cons (isSl_own (by repeat first | exact mH | apply mT | apply mA) w I) (.cons (isSl_own (by repeat first | exact mH | apply mT | apply mA) w I) (.cons (isSl_own (by repeat first | exact mH | apply mT | apply mA) w I) .nil)))))))) (by simp [putB_length]; try omega)) (fun v201 => ?_))
              refine heldN_of (by repeat first | exact sR | exact sN | apply sC | apply sS | apply sA) ?_
              refine take 26 rfl (by kernel_rfl) (by kernel_rfl) (by kernel_rfl) (by repeat first | exact sR | exact sN | apply sC | apply sS | apply sA) (Ev.assign (.t rfl)) ?_
              refine over (by kernel_rfl) ?_
              refine pN ?_
              refine ret ?_
              refine done rfl (.tmp rfl .nil) (retOE (by repeat first | exact mH | apply mT | apply mA) ?_)
              unfold fourB
              simp only [List.flatten_cons, List.flatten_nil, List.append_nil]
            · refine (callo en45 (.cons (.t rfl) .nil) (fun w I => rbytes_ok _ w) (fun v202 => ?_))
              refine heldN_of (by repeat first | exact sR | exact sN | apply sC | apply sS | apply sA) ?_
              refine all [2] (by kernel_rfl) (by decide) (.cons rfl ?_ .nil)
              refine (buildSlice (E := u8E) Try.underlying27 ty5 z5 (.cons (.c (v := U8 69) rfl) (.cons (.t rfl) .nil)) rfl rfl (fun v203 => ?_))
              refine heldN_of (by repeat first | exact sR | exact sN | apply sC | apply sS | apply sA) ?_
              refine all [24] (by kernel_rfl) (by decide) (.cons rfl ?_ .nil)
              refine (buildSlice (E := (ovE nilSl)) Try.underlying79 ty27 z27 (.cons (.t rfl) (.cons (.t rfl) (.cons (.t rfl) (.cons (.t rfl) (.cons (.t rfl) (.cons (.t rfl) (.cons (.t rfl) .nil))))))) rfl rfl (fun v204 => ?_))
              refine heldN_of (by repeat first | exact sR | exact sN | apply sC | apply sS | apply sA) ?_
              refine all [25] (by kernel_rfl) (by decide) (.cons rfl ?_ .nil)
              refine (callo en43 (.cons (.t rfl) .nil) (fun w I => join_ok _ _ w (IsSS.mk' (isSl_own (by repeat first | exact mH | apply mT | apply mA) w I) (.cons (isSl_own (by repeat first | exact mH | apply mT | apply mA) w I) (.cons (isSl_own (by repeat first | exact mH | apply mT | apply mA) w I) (.cons (isSl_own (by repeat first | exact mH | apply mT | apply mA) w I) (.cons (isSl_own (by repeat first | exact mH | apply mT | apply mA) w I) (.cons (isSl_own (by repeat first | exact mH | apply mT | apply mA) w I) (.cons (isSl_own (by repeat first | exact mH | apply mT | apply mA) w I) (.cons (isSl_own (by repeat first | exact mH | apply mT | apply mA) w I) .nil)))))))) (by simp [putB_length]; try omega)) (fun v205 => ?_))
              refine heldN_of (by repeat first | exact sR | exact sN | apply sC | apply sS | apply sA) ?_
              refine take 26 rfl (by kernel_rfl) (by kernel_rfl) (by kernel_rfl) (by repeat first | exact sR | exact sN | apply sC | apply sS | apply sA) (Ev.assign (.t rfl)) ?_
              refine over (by kernel_rfl) ?_
              refine pN ?_
              refine ret ?_
              refine done rfl (.tmp rfl .nil) (retOE (by repeat first | exact mH | apply mT | apply mA) ?_)
              unfold fourB
              simp only [List.flatten_cons, List.flatten_nil, List.append_nil]
  · refine (buildSlice (E := u8E) Try.underlying27 ty5 z5 (.cons (.c (v := U8 64) rfl) (.cons (.c (v := U8 0) rfl) (.cons (.t rfl) (.cons (.t rfl) .nil)))) rfl rfl (fun v206 => ?_))
    refine heldN_of (by repeat first | exact sR | exact sN | apply sC | apply sS | apply sA) ?_
    refine all [2, 5] (by kernel_rfl) (by decide) (.cons rfl ?_ (.cons rfl ?_ .nil))
    · refine (buildSlice (E := u8E) Try.underlying27 ty5 z5 (.cons (.c (v := U8 69) rfl) (.cons (.t rfl) .nil)) rfl rfl (fun v207 => ?_))
      refine heldN_of (by repeat first | exact sR | exact sN | apply sC | apply sS | apply sA) ?_
      refine all [5] (by kernel_rfl) (by decide) (.cons rfl ?_ .nil)
      refine (callo en44 (.cons (.t rfl) (.cons (.c (v := I 2) rfl) .nil)) (fun w I => bytes_ok _ _ w (by decide)) (fun v208 => ?_))
      refine heldN_of (by repeat first | exact sR | exact sN | apply sC | apply sS | apply sA) ?_
      refine all [9] (by kernel_rfl) (by decide) (.cons rfl ?_ .nil)
      refine (callo en44 (.cons (.t rfl) (.cons (.c (v := I 2) rfl) .nil)) (fun w I => bytes_ok _ _ w (by decide)) (fun v209 => ?_))
      refine heldN_of (by repeat first | exact sR | exact sN | apply sC | apply sS | apply sA) ?_
      refine all [17] (by kernel_rfl) (by decide) (.cons rfl ?_ .nil)
      refine (callo en44 (.cons (.t rfl) (.cons (.c (v := I 2) rfl) .nil)) (fun w I => bytes_ok _ _ w (by decide)) (fun v210 => ?_))
      refine heldN_of (by repeat first | exact sR | exact sN | apply sC | apply sS | apply sA) ?_
      refine all [20] (by kernel_rfl) (by decide) (.cons rfl ?_ .nil)
      refine (callo en45 (.cons (.t rfl) .nil) (fun w I => rbytes_ok _ w) (fun v211 => ?_))
      refine heldN_of (by repeat first | exact sR | exact sN | apply sC | apply sS | apply sA) ?_
      refine all [23] (by kernel_rfl) (by decide) (.cons rfl ?_ .nil)
      refine (callo en45 (.cons (.t rfl) .nil) (fun w I => rbytes_ok _ w) (fun v212 => ?_))
      refine heldN_of (by repeat first | exact sR | exact sN | apply sC | apply sS | apply sA) ?_
      refine all [24] (by kernel_rfl) (by decide) (.cons rfl ?_ .nil)
      refine (buildSlice (E := (ovE nilSl)) Try.underlying79 ty27 z27 (.cons (.t rfl) (.cons (.t rfl) (.cons (.t rfl) (.cons (.t rfl) (.cons (.t rfl) (.cons (.t rfl) (.cons (.t rfl) .nil))))))) rfl rfl (fun v213 => ?_))
      refine heldN_of (by repeat first | exact sR | exact sN | apply sC | apply sS | apply sA) ?_
      refine all [25] (by kernel_rfl) (by decide) (.cons rfl ?_ .nil)
      refine (callo en43 (.cons (.t rfl) .nil) (fun w I => join_ok _ _ w (IsSS.mk' (isSl_own (by repeat first | exact mH | apply mT | apply mA) w I) (.cons (isSl_own (by repeat first | exact mH | apply mT | apply mA) w I) (.cons (isSl_own (by repeat first | exact mH | apply mT | apply mA) w I) (.cons (isSl_own (by repeat first | exact mH | apply mT | apply mA) w I) (.cons (isSl_own (by repeat first | exact mH | apply mT | apply mA) w I) (.cons (isSl_own (by repeat first | exact mH | apply mT | apply mA) w I) (.cons (isSl_own (by repeat first | exact mH | apply mT | apply mA) w I) (.cons (isSl_own (by repeat first | exact mH | apply mT | apply mA) w I) .nil)))))))) (by simp [putB_length]; try omega)) (fun v214 => ?_))
      refine heldN_of (by repeat first | exact sR | exact sN | apply sC | apply sS | apply sA) ?_
      refine take 26 rfl (by kernel_rfl) (by kernel_rfl) (by kernel_rfl) (by repeat first | exact sR | exact sN | apply sC | apply sS | apply sA) (Ev.assign (.t rfl)) ?_
      refine over (by kernel_rfl) ?_
      refine pN ?_
      refine ret ?_
      refine done rfl (.tmp rfl .nil) (retOE (by repeat first | exact mH | apply mT | apply mA) ?_)
      unfold fourB
      simp only [List.flatten_cons, List.flatten_nil, List.append_nil]
    · refine (callo en44 (.cons (.t rfl) (.cons (.c (v := I 2) rfl) .nil)) (fun w I => bytes_ok _ _ w (by decide)) (fun v215 => ?_))
      refine heldN_of (by repeat first | exact sR | exact sN | apply sC | apply sS | apply sA) ?_
      refine all [2, 9] (by kernel_rfl) (by decide) (.cons rfl ?_ (.cons rfl ?_ .nil))
      · refine (buildSlice (E := u8E) Try.underlying27 ty5 z5 (.cons (.c (v := U8 69) rfl) (.cons (.t rfl) .nil)) rfl rfl (fun v216 => ?_))
        refine heldN_of (by repeat first | exact sR | exact sN | apply sC | apply sS | apply sA) ?_
        refine all [9] (by kernel_rfl) (by decide) (.cons rfl ?_ .nil)
        refine (callo en44 (.cons (.t rfl) (.cons (.c (v := I 2) rfl) .nil)) (fun w I => bytes_ok _ _ w (by decide)) (fun v217 => ?_))
        refine heldN_of (by repeat first | exact sR | exact sN | apply sC | apply sS | apply sA) ?_
        refine all [17] (by kernel_rfl) (by decide) (.cons rfl ?_ .nil)
        refine (callo en44 (.cons (.t rfl) (.cons (.c (v := I 2) rfl) .nil)) (fun w I => bytes_ok _ _ w (by decide)) (fun v218 => ?_))
        refine heldN_of (by repeat first | exact sR | exact sN | apply sC | apply sS | apply sA) ?_
        refine all [20] (by kernel_rfl) (by decide) (.cons rfl ?_ .nil)
        refine (callo en45 (.cons (.t rfl) .nil) (fun w I => rbytes_ok _ w) (fun v219 => ?_))
        refine heldN_of (by repeat first | exact sR | exact sN | apply sC | apply sS | apply sA) ?_
        refine all [23] (by kernel_rfl) (by decide) (.cons rfl ?_ .nil)
        refine (callo en45 (.cons (.t rfl) .nil) (fun w I => rbytes_ok _ w) (fun v220 => ?_))
        refine heldN_of (by repeat first | exact sR | exact sN | apply sC | apply sS | apply sA) ?_
        refine all [24] (by kernel_rfl) (by decide) (.cons rfl ?_ .nil)
        refine (buildSlice (E := (ovE nilSl)) Try.underlying79 ty27 z27 (.cons (.t rfl) (.cons (.t rfl) (.cons (.t rfl) (.cons (.t rfl) (.cons (.t rfl) (.cons (.t rfl) (.cons (.t rfl) .nil))))))) rfl rfl (fun v221 => ?_))
        refine heldN_of (by repeat first | exact sR | exact sN | apply sC | apply sS | apply sA) ?_
        refine all [25] (by kernel_rfl) (by decide) (.cons rfl ?_ .nil)
        refine (callo en43 (.cons (.t rfl) .nil) (fun w I => join_ok _ _ w (IsSS.mk' (isSl_own (by repeat first | exact mH | apply mT | apply mA) w I) (.cons (isSl_own (by repeat first | exact mH | apply mT | apply mA) w I) (.cons (isSl_own (by repeat first | exact mH | apply mT | apply mA) w I) (.cons (isSl_own (by repeat first | exact mH | apply mT | apply mA) w I) (.cons (isSl_own (by repeat first | exact mH | apply mT | apply mA) w I) (.cons (isSl_own (by repeat first | exact mH | apply mT | apply mA) w I) (.cons (isSl_own (by repeat first | exact mH | apply mT | apply mA) w I) (.cons (isSl_own (by repeat first | exact mH | apply mT | apply mA) w I) .nil)))))))) (by simp [putB_length]; try omega)) (fun v222 => ?_))
        refine heldN_of (by repeat first | exact sR | exact sN | apply sC | apply sS | apply sA) ?_
        refine take 26 rfl (by kernel_rfl) (by kernel_rfl) (by kernel_rfl) (by repeat first | exact sR | exact sN | apply sC | apply sS | apply sA) (Ev.assign (.t rfl)) ?_
        refine over (by kernel_rfl) ?_
        refine pN ?_
        refine ret ?_
        refine done rfl (.tmp rfl .nil) (retOE (by repeat first | exact mH | apply mT | apply mA) ?_)
        unfold fourB
        simp only [List.flatten_cons, List.flatten_nil, List.append_nil]
      · refine (callo en44 (.cons (.t rfl) (.cons (.c (v := I 2) rfl) .nil)) (fun w I => bytes_ok _ _ w (by decide)) (fun v223 => ?_))
        refine heldN_of (by repeat first | exact sR | exact sN | apply sC | apply sS | apply sA) ?_
        refine all [2, 17] (by kernel_rfl) (by decide) (.cons rfl ?_ (.cons rfl ?_ .nil))
        · refine (buildSlice (E := u8E) Try.underlying27 ty5 z5 (.cons (.c (v := U8 69) rfl) (.cons (.t rfl) .nil)) rfl rfl (fun v224 => ?_))
          refine heldN_of (by repeat first | exact sR | exact sN | apply sC | apply sS | apply sA) ?_
          refine all [17] (by kernel_rfl) (by decide) (.cons rfl ?_ .nil)
          refine (callo en44 (.cons (.t rfl) (.cons (.c (v := I 2) rfl) .nil)) (fun w I => bytes_ok _ _ w (by decide)) (fun v225 => ?_))
          refine heldN_of (by repeat first | exact sR | exact sN | apply sC | apply sS | apply sA) ?_
          refine all [20] (by kernel_rfl) (by decide) (.cons rfl ?_ .nil)
          refine (callo en45 (.cons (.t rfl) .nil) (fun w I => rbytes_ok _ w) (fun v226 => ?_))
          refine heldN_of (by repeat first | exact sR | exact sN | apply sC | apply sS | apply sA) ?_
          refine all [23] (by kernel_rfl) (by decide) (.cons rfl ?_ .nil)
          refine (callo en45 (.cons (.t rfl) .nil) (fun w I => rbytes_ok _ w) (fun v227 => ?_))
          refine heldN_of (by repeat first | exact sR | exact sN | apply sC | apply sS | apply sA) ?_
          refine all [24] (by kernel_rfl) (by decide) (.cons rfl ?_ .nil)
          refine (buildSlice (E := (ovE nilSl)) Try.underlying79 ty27 z27 (.cons (.t rfl) (.cons (.t rfl) (.cons (.t rfl) (.cons (.t rfl) (.cons (.t rfl) (.cons (.t rfl) (.cons (.t rfl) .nil))))))) rfl rfl (fun v228 => ?_))
          refine heldN_of (by repeat first | exact sR | exact sN | apply sC | apply sS | apply sA) ?_
          refine all [25] (by kernel_rfl) (by decide) (.cons rfl ?_ .nil)
          refine (callo en43 (.cons (.t rfl) .nil) (fun w I => join_ok _ _ w (IsSS.mk' (isSl_own (by repeat first | exact mH | apply mT | apply mA) w I) (.cons (isSl_own (by repeat first | exact mH | apply mT | apply mA) w I) (.cons (isSl_own (by repeat first | exact mH | apply mT | apply mA) w I) (.cons (isSl_own (by repeat first | exact mH | apply mT | apply mA) w I) (.cons (isSl_own (by repeat first | exact mH | apply mT | apply mA) w I) (.cons (isSl_own (by repeat first | exact mH | apply mT | apply mA) w I) (.cons (isSl_own (by repeat first | exact mH | apply mT | apply mA) w I) (.cons (isSl_own (by repeat first | exact mH | apply mT | apply mA) w I) .nil)))))))) (by simp [putB_length]; try omega)) (fun v229 => ?_))
          refine heldN_of (by repeat first | exact sR | exact sN | apply sC | apply sS | apply sA) ?_
          refine take 26 rfl (by kernel_rfl) (by kernel_rfl) (by kernel_rfl) (by repeat first | exact sR | exact sN | apply sC | apply sS | apply sA) (Ev.assign (.t rfl)) ?_
          refine over (by kernel_rfl) ?_
          refine pN ?_
          refine ret ?_
          refine done rfl (.tmp rfl .nil) (retOE (by repeat first | exact mH | apply mT | apply mA) ?_)
          unfold fourB
          simp only [List.flatten_cons, List.flatten_nil, List.append_nil]
        · refine (callo en44 (.cons (.t rfl) (.cons (.c (v := I 2) rfl) .nil)) (fun w I => bytes_ok _ _ w (by decide)) (fun v230 => ?_))
          refine heldN_of (by repeat first | exact sR | exact sN | apply sC | apply sS | apply sA) ?_
          refine all [2, 20] (by kernel_rfl) (by decide) (.cons rfl ?_ (.cons rfl ?_ .nil))
          · refine (buildSlice (E := u8E) Try.underlying27 ty5 z5 (.cons (.c (v := U8 69) rfl) (.cons (.t rfl) .nil)) rfl rfl (fun v231 => ?_))
            refine heldN_of (by repeat first | exact sR | exact sN | apply sC | apply sS | apply sA) ?_
            refine all [20] (by kernel_rfl) (by decide) (.cons rfl ?_ .nil)
            refine (callo en45 (.cons (.t rfl) .nil) (fun w I => rbytes_ok _ w) (fun v232 => ?_))
            refine heldN_of (by repeat first | exact sR | exact sN | apply sC | apply sS | apply sA) ?_
            refine all [23] (by kernel_rfl) (by decide) (.cons rfl ?_ .nil)
            refine (callo en45 (.cons (.t rfl) .nil) (fun w I => rbytes_ok _ w) (fun v233 => ?_))
            refine heldN_of (by repeat first | exact sR | exact sN | apply sC | apply sS | apply sA) ?_
            refine all [24] (by kernel_rfl) (by decide) (.cons rfl ?_ .nil)
            refine (buildSlice (E := (ovE nilSl)) Try.underlying79 ty27 z27 (.cons (.t rfl) (.cons (.t rfl) (.cons (.t rfl) (.cons (.t rfl) (.cons (.t rfl) (.cons (.t rfl) (.cons (.t rfl) .nil))))))) rfl rfl (fun v234 => ?_))
            refine heldN_of (by repeat first | exact sR | exact sN | apply sC | apply sS | apply sA) ?_
            refine all [25] (by kernel_rfl) (by decide) (.cons rfl ?_ .nil)
            refine (callo en43 (.cons (.t rfl) .nil) (fun w I => join_ok _ _ w (IsSS.mk' (isSl_own (by repeat first | exact mH | apply mT | apply mA) w I) (.cons (isSl_own (by repeat first | exact mH | apply mT | apply mA) w I) (.cons (isSl_own (by repeat first | exact mH | apply mT | apply mA) w I) (.cons (isSl_own (by repeat first | exact mH | apply mT | apply mA) w I) (.cons (isSl_own (by repeat first | exact mH | apply mT | apply mA) w I) (.cons (isSl_own (by repeat first | exact mH | apply mT | apply mA) w I) (.cons (isSl_own (by repeat first | exact mH | apply mT | apply mA) w I) (.cons (isSl_own (by repeat first | exact mH | apply mT | apply mA) w I) .nil)))))))) (by simp [putB_length]; try omega)) (fun v235 => ?_))
            refine heldN_of (by repeat first | exact sR | exact sN | apply sC | apply sS | apply sA) ?_
            refine take 26 rfl (by kernel_rfl) (by kernel_rfl) (by kernel_rfl) (by repeat first | exact sR | exact sN | apply sC | apply sS | apply sA) (Ev.assign (.t rfl)) ?_
            refine over (by kernel_rfl) ?_
            refine pN ?_
            refine ret ?_
            refine done rfl (.tmp rfl .nil) (retOE (by repeat first | exact mH | apply mT | apply mA) ?_)
            unfold fourB
            simp only [List.flatten_cons, List.flatten_nil, List.append_nil]
          · refine (callo en45 (.cons (.t rfl) .nil) (fun w I => rbytes_ok _ w) (fun v236 => ?_))
            refine heldN_of (by repeat first | exact sR | exact sN | apply sC | apply sS | apply sA) ?_
            refine all [2, 23] (by kernel_rfl) (by decide) (.cons rfl ?_ (.cons rfl ?_ .nil))
            · refine (buildSlice (E := u8E) Try.underlying27 ty5 z5 (.cons (.c (v := U8 69) rfl) (.cons (.t rfl) .nil)) rfl rfl (fun v237 => ?_))
              refine heldN_of (by repeat first | exact sR | exact sN | apply sC | apply sS | apply sA) ?_
              refine all [23] (by kernel_rfl) (by decide) (.cons rfl ?_ .nil)
              refine (callo en45 (.cons (.t rfl) .nil) (fun w I => rbytes_ok _ w) (fun v238 => ?_))
              refine heldN_of (by repeat first | exact sR | exact sN | apply sC | apply sS | apply sA) ?_
              refine all [24] (by kernel_rfl) (by decide) (.cons rfl ?_ .nil)
              refine (buildSlice (E := (ovE nilSl)) Try.underlying79 ty27 z27 (.cons (.t rfl) (.cons (.t rfl) (.cons (.t rfl) (.cons (.t rfl) (.cons (.t rfl) (.cons (.t rfl) (.cons (.t rfl) .nil))))))) rfl rfl (fun v239 => ?_))
              refine heldN_of (by repeat first | exact sR | exact sN | apply sC | apply sS | apply sA) ?_
              refine all [25] (by kernel_rfl) (by decide) (.cons rfl ?_ .nil)
              refine (callo en43 (.cons (.t rfl) .nil) (fun w I => join_ok _ _ w (IsSS.mk' (isSl_own (by repeat first | exact mH | apply mT | apply mA) w I) (.cons (isSl_own (by repeat first | exact mH | apply mT | apply mA) w I) (.cons (isSl_own (by repeat first | exact mH | apply mT | apply mA) w I) (.cons (isSl_own (by repeat first | exact mH | apply mT | apply mA) w I) (.cons (isSl_own (by repeat first | exact mH | apply mT | apply mA) w I) (.cons (isSl_own (by repeat first | exact mH | apply mT | apply mA) w I) (.cons (isSl_own (by repeat first | exact mH | apply mT | apply mA) w I) (.cons (isSl_own (by repeat first | exact mH | apply mT | apply mA) w I) .nil)))))))) (by simp [putB_length]; try omega)) (fun v240 => ?_))
              refine heldN_of (by repeat first | exact sR | exact sN | apply sC | apply sS | apply sA) ?_
              refine take 26 rfl (by kernel_rfl) (by kernel_rfl) (by kernel_rfl) (by repeat first | exact sR | exact sN | apply sC | apply sS | apply sA) (Ev.assign (.t rfl)) ?_
              refine over (by kernel_rfl) ?_
              refine pN ?_
              refine ret ?_
              refine done rfl (.tmp rfl .nil) (retOE (by repeat first | exact mH | apply mT | apply mA) ?_)
              unfold fourB
              simp only [List.flatten_cons, List.flatten_nil, List.append_nil]
            · refine (callo en45 (.cons (.t rfl) .nil) (fun w I => rbytes_ok _ w) (fun v241 => ?_))
              refine heldN_of (by repeat first | exact sR | exact sN | apply sC | apply sS | apply sA) ?_
              refine all [2] (by kernel_rfl) (by decide) (.cons rfl ?_ .nil)
              refine (buildSlice (E := u8E) Try.underlying27 ty5 z5 (.cons (.c (v := U8 69) rfl) (.cons (.t rfl) .nil)) rfl rfl (fun v242 => ?_))
              refine heldN_of (by repeat first | exact sR | exact sN | apply sC | apply sS | apply sA) ?_
              refine all [24] (by kernel_rfl) (by decide) (.cons rfl ?_ .nil)
              refine (buildSlice (E := (ovE nilSl)) Try.underlying79 ty27 z27 (.cons (.t rfl) (.cons (.t rfl) (.cons (.t rfl) (.cons (.t rfl) (.cons (.t rfl) (.cons (.t rfl) (.cons (.t rfl) .nil))))))) rfl rfl (fun v243 => ?_))
              refine heldN_of (by repeat first | exact sR | exact sN | apply sC | apply sS | apply sA) ?_
              refine all [25] (by kernel_rfl) (by decide) (.cons rfl ?_ .nil)
              refine (callo en43 (.cons (.t rfl) .nil) (fun w I => join_ok _ _ w (IsSS.mk' (isSl_own (by repeat first | exact mH | apply mT | apply mA) w I) (.cons (isSl_own (by repeat first | exact mH | apply mT | apply mA) w I) (.cons (isSl_own (by repeat first | exact mH | apply mT | apply mA) w I) (.cons (isSl_own (by repeat first | exact mH | apply mT | apply mA) w I) (.cons (isSl_own (by repeat first | exact mH | apply mT | apply mA) w I) (.cons (isSl_own (by repeat first | exact mH | apply mT | apply mA) w I) (.cons (isSl_own (by repeat first | exact mH | apply mT | apply mA) w I) (.cons (isSl_own (by repeat first | exact mH | apply mT | apply mA) w I) .nil)))))))) (by simp [putB_length]; try omega)) (fun v244 => ?_))
              refine heldN_of (by repeat first | exact sR | exact sN | apply sC | apply sS | apply sA) ?_
              refine take 26 rfl (by kernel_rfl) (by kernel_rfl) (by kernel_rfl) (by repeat first | exact sR | exact sN | apply sC | apply sS | apply sA) (Ev.assign (.t rfl)) ?_
              refine over (by kernel_rfl) ?_
              refine pN ?_
              refine ret ?_
              refine done rfl (.tmp rfl .nil) (retOE (by repeat first | exact mH | apply mT | apply mA) ?_)
              unfold fourB
              simp only [List.flatten_cons, List.flatten_nil, List.append_nil]
end Go.Proofs.Ytegcihhhighipaa
