/- packet -/
import Derived.Test.YtegcihhhighipaaRows
import Derived.Test.YtegcihhhighipaaGxJ
set_option linter.unusedVariables false
set_option linter.unusedSimpArgs false
namespace Go.Proofs.Ytegcihhhighipaa
open Go Go.Gx

/-- The lowest n bytes of a number, the highest first. -/
def putB : Nat → UInt64 → List UInt8
  | 0, _ => []
  | n + 1, v => (shr64 v (8 * n)).toUInt8 :: putB n v
theorem putB_length (n : Nat) (v : UInt64) : (putB n v).length = n := by
  induction n with
  | zero => rfl
  | succ n ih => simp [putB, ih]


theorem width_uint16_ok (w : World) : Calls Try.prog 65 #[] w (RetV w (I 2)) := by
  refine enter0 13 Try.func65 rfl rfl (Nat.le_of_ble_eq_true rfl) ?_
  refine seq ?_
  refine region ?_
  refine cons (opv (Ev.assign (.c (v := I 0) rfl)) ?_)
  refine nil ?_
  refine pN ?_
  refine seq ?_
  refine region ?_
  refine cons (opv (Ev.assign (.c (v := I 0) rfl)) ?_)
  refine nil ?_
  refine pN ?_
  refine seq ?_
  refine seq ?_
  refine region ?_
  refine cons (opv (Ev.conv_i_u16 Try.underlying25 Try.underlying3 (.c (v := I 0) rfl)) ?_)
  refine cons (opv (Ev.compl_u16 (.t rfl)) ?_)
  refine cons (opv (Ev.conv_u16_u64 Try.underlying66 Try.underlying25 (.t rfl)) ?_)
  refine cons (opv (Ev.assign (.t rfl)) ?_)
  refine nil ?_
  refine pN ?_
  refine block ?_
  refine loop (X := Nat × UInt64) (fun x : Nat × UInt64 => (x.1 ≤ 2) ∧ (x.2.toNat + 1 = 256 ^ (2 - x.1))) (fun x : Nat × UInt64 => [(0, true, I 0), (1, true, I x.1), (2, true, U64 x.2)]) (fun x : Nat × UInt64 => []) (fun x : Nat × UInt64 => 2 - x.1) (0, _) ⟨?_, ?_⟩ (by repeat first | exact Sub.nil | refine Sub.cons rfl ?_) (by repeat first | exact sR | exact sN | apply sC | apply sS | apply sA) (fun x hx => ?_)
  · omega
  · decide
  obtain ⟨k, t⟩ := x
  obtain ⟨hk, ht⟩ : (k ≤ 2) ∧ (t.toNat + 1 = 256 ^ (2 - k)) := hx
  show Sat _ _ [(0, true, I 0), (1, true, I k), (2, true, U64 t)] []
  refine seq ?_
  refine seq ?_
  refine region ?_
  refine cons (opv (Ev.move (.t rfl)) ?_)
  refine cons (opv (Ev.gtr_u64 (.t rfl) (.c (v := U64 0) rfl)) ?_)
  refine nil ?_
  refine pN ?_
  first | refine condD rfl (fun h0 => ?_) (fun h0 => ?_) | refine cond rfl (fun h0 => ?_) (fun h0 => ?_)
  · try simp only [Bool.and_eq_true, Bool.or_eq_true, Bool.or_eq_false_iff, Bool.and_eq_false_iff, Bool.not_eq_true', Bool.not_eq_false', decide_eq_true_eq, decide_eq_false_iff_not, Decidable.not_not] at h0
    have hkn : k < 2 := by
      rcases Nat.lt_or_ge k 2 with h | h
      · exact h
      · have e : k = 2 := by omega
        subst e
        simp [UInt64.lt_iff_toNat_lt] at h0 ht
        omega
    refine skip ?_
    refine pN ?_
    refine seq ?_
    refine block ?_
    refine region ?_
    refine cons (opv (Ev.move (.t rfl)) ?_)
    refine cons (opv (Ev.add_i (.t rfl) (.c (v := I 1) rfl) (fun _ => by omega)) ?_)
    refine cons (opv (Ev.assign (.t rfl)) ?_)
    refine nil ?_
    refine bN ?_
    refine pN ?_
    refine region ?_
    refine cons (opv (Ev.move (.t rfl)) ?_)
    refine cons (opv (Ev.shr_u64 (.t rfl) (.c rfl) (fun _ => by decide)) ?_)
    refine cons (opv (Ev.assign (.t rfl)) ?_)
    refine nil ?_
    refine pN ?_
    refine next (X := Nat × UInt64) (k + 1, shr64 t 8) ⟨?_, ?_⟩ ?_ (by repeat first | exact Sub.nil | refine Sub.cons rfl ?_) (by repeat first | exact sR | exact sN | apply sC | apply sS | apply sA)
    · try dsimp only
      omega
    · try dsimp only
      rw [toNat_shr64]; have e : 2 - k = (2 - (k + 1)) + 1 := by omega
      rw [e, Nat.pow_succ] at ht
      omega
    · try dsimp only
      first | omega | (simp; omega)
  · try simp only [Bool.and_eq_true, Bool.or_eq_true, Bool.or_eq_false_iff, Bool.and_eq_false_iff, Bool.not_eq_true', Bool.not_eq_false', decide_eq_true_eq, decide_eq_false_iff_not, Decidable.not_not] at h0
    have hkn : k = 2 := by
      rcases Nat.lt_or_ge k 2 with h | h
      · have e : 2 - k = (2 - (k + 1)) + 1 := by omega
        have hp : 0 < 256 ^ (2 - (k + 1)) := Nat.pow_pos (by decide)
        rw [e, Nat.pow_succ] at ht
        simp [UInt64.lt_iff_toNat_lt] at h0
        omega
      · omega
    subst hkn
    refine exit ?_
    refine pX ?_
    refine pX ?_
    refine bX ?_
    refine pN ?_
    refine seq ?_
    refine region ?_
    refine cons (opv (Ev.move (.t rfl)) ?_)
    refine cons (opv (Ev.assign (.t rfl)) ?_)
    refine nil ?_
    refine pN ?_
    refine ret ?_
    refine done rfl (.tmp rfl .nil) (retE ?_)
    first | rfl | (simp; done)

theorem ty5 : TyOK Try.prog 5 u8E := TyOK.mk' (by kernel_rfl) (by kernel_rfl)

theorem zb5 : (Try.prog.info? 5).map (fun i => (i.zero, i.bytes)) = some (some (u8E.val u8E.zero), 1) := by kernel_rfl

theorem zs5 : (u8E.val u8E.zero).cells.size = u8E.size := by rw [Enc.cells_val, List.size_toArray, Enc.len]

theorem en65 : Enters Try.prog 65 := Enters.mk' (by kernel_rfl)

theorem z5 : (Try.prog.info? 5).bind (·.zero) = some (u8E.val u8E.zero) := by kernel_rfl

theorem put_uint16_ok (u : Value) (b : List UInt8) (v : UInt16) (w : World) (hb : IsSl u8E w u b) (hl : b.length + 2 ≤ 140737488355328) :
    Calls Try.prog 53 #[u, U16 v] w (RetO w u8E (b ++ putB 2 v.toUInt64) 5) := by
  have hbl := hb.le
  refine enter0 34 Try.func53 rfl rfl (Nat.le_of_ble_eq_true rfl) ?_
  refine seq ?_
  refine region ?_
  refine cons (opv (Ev.assign (.c (v := (Go.Value.slice none 0 0)) rfl)) ?_)
  refine nil ?_
  refine pN ?_
  refine seq ?_
  refine region ?_
  refine cons (callv en65 .nil (fun w I => width_uint16_ok w) ?_)
  refine cons (opv (Ev.assign (.t rfl)) ?_)
  refine nil ?_
  refine pN ?_
  refine seq ?_
  refine region ?_
  refine cons (opv (Ev.move (.t rfl)) ?_)
  refine cons (opv (Ev.len Try.underlying27 (.t rfl) (by first | exact isSl_own (by repeat first | exact mH | apply mT | apply mA) | exact fun w I => IsSl.keep0 (by assumption) I.keeps)) ?_)
  refine cons (opv (Ev.move (.t rfl)) ?_)
  refine cons (opv (Ev.len Try.underlying27 (.t rfl) (by first | exact isSl_own (by repeat first | exact mH | apply mT | apply mA) | exact fun w I => IsSl.keep0 (by assumption) I.keeps)) ?_)
  refine cons (opv (Ev.move (.t rfl)) ?_)
  refine cons (opv (Ev.add_i (.t rfl) (.t rfl) (fun _ => by omega)) ?_)
  refine cons (makeSl (E := u8E) Try.underlying27 ty5 rfl zb5 (.t rfl) (.t rfl) ⟨by omega, by omega⟩ ⟨by omega, by omega⟩ (fun o1 => ?_))
  refine cons (opv (Ev.assign (.t rfl)) ?_)
  refine nil ?_
  refine pN ?_
  refine seq ?_
  refine region ?_
  refine cons (opv (Ev.move (.t rfl)) ?_)
  refine cons (opv (Ev.move (.t rfl)) ?_)
  refine cons (copyO (E := u8E) Try.underlying27 ty5 (.t rfl) (.t rfl) (by repeat first | exact Upd.head | apply Upd.tail) (fun w I => hb.keep0 I.keeps) ?_)
  refine nil ?_
  refine pN ?_
  refine seq ?_
  refine seq ?_
  refine region ?_
  refine cons (opv (Ev.move (.t rfl)) ?_)
  refine cons (opv (Ev.sub_i (.t rfl) (.c (v := I 1) rfl) (fun _ => by omega)) ?_)
  refine cons (opv (Ev.assign (.t rfl)) ?_)
  refine nil ?_
  refine pN ?_
  refine block ?_
  have e1 : (List.replicate (Int.toNat (b.length : Int)) u8E.zero) = List.replicate b.length (0 : UInt8) := by rw [Int.toNat_natCast]; rfl
  rw [e1]
  have e2 : b.take (List.replicate b.length (0 : UInt8)).length ++ (List.replicate b.length (0 : UInt8)).drop b.length = b := by simp
  rw [e2]
  refine loop (X := Int × OV × (List UInt8)) (fun x : Int × OV × (List UInt8) => (-1 ≤ x.1 ∧ x.1 ≤ 1) ∧ (x.2.2 ++ putB (x.1 + 1).toNat v.toUInt64 = b ++ putB 2 v.toUInt64)) (fun x : Int × OV × (List UInt8) => [(1, true, U16 v), (5, true, I x.1), (6, true, x.2.1.v)]) (fun x : Int × OV × (List UInt8) => [OwnS x.2.1.v u8E x.2.2 5]) (fun x : Int × OV × (List UInt8) => (x.1 + 1).toNat) (_, o1, b) ⟨?_, ?_⟩ (by repeat first | exact Sub.nil | refine Sub.cons rfl ?_) (by repeat first | exact sR | exact sN | apply sC | apply sS | apply sA) (fun x hx => ?_)
  · omega
  · rfl
  obtain ⟨i, o, xs⟩ := x
  obtain ⟨hi, hxs⟩ : (-1 ≤ i ∧ i ≤ 1) ∧ (xs ++ putB (i + 1).toNat v.toUInt64 = b ++ putB 2 v.toUInt64) := hx
  show Sat _ _ [(1, true, U16 v), (5, true, I i), (6, true, o.v)] [OwnS o.v u8E xs 5]
  refine seq ?_
  refine seq ?_
  refine region ?_
  refine cons (opv (Ev.move (.t rfl)) ?_)
  refine cons (opv (Ev.geq_i (.t rfl) (.c (v := I 0) rfl)) ?_)
  refine nil ?_
  refine pN ?_
  first | refine condD rfl (fun h0 => ?_) (fun h0 => ?_) | refine cond rfl (fun h0 => ?_) (fun h0 => ?_)
  · try simp only [Bool.and_eq_true, Bool.or_eq_true, Bool.or_eq_false_iff, Bool.and_eq_false_iff, Bool.not_eq_true', Bool.not_eq_false', decide_eq_true_eq, decide_eq_false_iff_not, Decidable.not_not] at h0
    have hlen : xs.length + (i + 1).toNat = b.length + 2 := by
      have := congrArg List.length hxs
      simpa [putB_length] using this
    refine skip ?_
    refine pN ?_
    refine seq ?_
    refine block ?_
    refine region ?_
    refine cons (opv (Ev.move (.t rfl)) ?_)
    refine cons (opv (Ev.move (.t rfl)) ?_)
    refine cons (opv (Ev.conv_u16_u64 Try.underlying66 Try.underlying25 (.t rfl)) ?_)
    refine cons (opv (Ev.move (.t rfl)) ?_)
    refine cons (opv (Ev.mul_i (.c (v := I 8) rfl) (.t rfl) (fun _ => by omega)) ?_)
    refine cons (opv (Ev.shr_u64 (.t rfl) (.t rfl) (fun _ => by omega)) ?_)
    refine cons (opv (Ev.conv_u64_u8 Try.underlying5 Try.underlying66 (.t rfl)) ?_)
    refine cons (buildSlice (E := u8E) Try.underlying27 ty5 z5 (.cons (.t rfl) .nil) rfl rfl (fun v1 => ?_))
    refine cons (append (E := u8E) Try.underlying27 ty5 rfl zb5 zs5 (.t rfl) (.t rfl) (fun _ => by repeat first | exact Upd.head | apply Upd.tail | apply Upd.right) (by first | exact isSl_own (by repeat first | exact mH | apply mT | apply mA) | exact fun w I => IsSl.keep0 (by assumption) I.keeps) (⟨by (show _ ≤ 9223372036854775807); simp; omega, by simp; omega⟩) (fun v2 => ?_))
    refine cons (opv (Ev.assign (.t rfl)) ?_)
    refine nil ?_
    refine bN ?_
    refine pN ?_
    refine region ?_
    refine cons (opv (Ev.move (.t rfl)) ?_)
    refine cons (opv (Ev.sub_i (.t rfl) (.c (v := I 1) rfl) (fun _ => by omega)) ?_)
    refine cons (opv (Ev.assign (.t rfl)) ?_)
    refine nil ?_
    refine pN ?_
    refine next (X := Int × OV × (List UInt8)) (i - 1, _, _) ⟨?_, ?_⟩ ?_ (by repeat first | exact Sub.nil | refine Sub.cons rfl ?_) (by repeat first | exact sR | exact sN | apply sC | apply sS | apply sA)
    · try dsimp only
      omega
    · try dsimp only
      rw [← hxs]
      have e : (i + 1).toNat = (i - 1 + 1).toNat + 1 := by omega
      have e3 : (8 * i).toNat = 8 * (i - 1 + 1).toNat := by omega
      rw [e, List.append_assoc, List.append_cancel_left_eq, e3]
      rfl
    · try dsimp only
      omega
  · try simp only [Bool.and_eq_true, Bool.or_eq_true, Bool.or_eq_false_iff, Bool.and_eq_false_iff, Bool.not_eq_true', Bool.not_eq_false', decide_eq_true_eq, decide_eq_false_iff_not, Decidable.not_not] at h0
    have hi1 : (i + 1).toNat = 0 := by omega
    rw [hi1] at hxs
    simp only [putB, List.append_nil] at hxs
    subst hxs
    refine exit ?_
    refine pX ?_
    refine pX ?_
    refine bX ?_
    refine pN ?_
    refine seq ?_
    refine region ?_
    refine cons (opv (Ev.move (.t rfl)) ?_)
    refine cons (opv (Ev.assign (.t rfl)) ?_)
    refine nil ?_
    refine pN ?_
    refine ret ?_
    refine done rfl (.tmp rfl .nil) (retOE (by repeat first | exact mH | apply mT | apply mA) ?_)
    rfl

theorem width_uint32_ok (w : World) : Calls Try.prog 66 #[] w (RetV w (I 4)) := by
  refine enter0 13 Try.func66 rfl rfl (Nat.le_of_ble_eq_true rfl) ?_
  refine seq ?_
  refine region ?_
  refine cons (opv (Ev.assign (.c (v := I 0) rfl)) ?_)
  refine nil ?_
  refine pN ?_
  refine seq ?_
  refine region ?_
  refine cons (opv (Ev.assign (.c (v := I 0) rfl)) ?_)
  refine nil ?_
  refine pN ?_
  refine seq ?_
  refine seq ?_
  refine region ?_
  refine cons (opv (Ev.conv_i_u32 Try.underlying26 Try.underlying3 (.c (v := I 0) rfl)) ?_)
  refine cons (opv (Ev.compl_u32 (.t rfl)) ?_)
  refine cons (opv (Ev.conv_u32_u64 Try.underlying66 Try.underlying26 (.t rfl)) ?_)
  refine cons (opv (Ev.assign (.t rfl)) ?_)
  refine nil ?_
  refine pN ?_
  refine block ?_
  refine loop (X := Nat × UInt64) (fun x : Nat × UInt64 => (x.1 ≤ 4) ∧ (x.2.toNat + 1 = 256 ^ (4 - x.1))) (fun x : Nat × UInt64 => [(0, true, I 0), (1, true, I x.1), (2, true, U64 x.2)]) (fun x : Nat × UInt64 => []) (fun x : Nat × UInt64 => 4 - x.1) (0, _) ⟨?_, ?_⟩ (by repeat first | exact Sub.nil | refine Sub.cons rfl ?_) (by repeat first | exact sR | exact sN | apply sC | apply sS | apply sA) (fun x hx => ?_)
  · omega
  · decide
  obtain ⟨k, t⟩ := x
  obtain ⟨hk, ht⟩ : (k ≤ 4) ∧ (t.toNat + 1 = 256 ^ (4 - k)) := hx
  show Sat _ _ [(0, true, I 0), (1, true, I k), (2, true, U64 t)] []
  refine seq ?_
  refine seq ?_
  refine region ?_
  refine cons (opv (Ev.move (.t rfl)) ?_)
  refine cons (opv (Ev.gtr_u64 (.t rfl) (.c (v := U64 0) rfl)) ?_)
  refine nil ?_
  refine pN ?_
  first | refine condD rfl (fun h0 => ?_) (fun h0 => ?_) | refine cond rfl (fun h0 => ?_) (fun h0 => ?_)
  · try simp only [Bool.and_eq_true, Bool.or_eq_true, Bool.or_eq_false_iff, Bool.and_eq_false_iff, Bool.not_eq_true', Bool.not_eq_false', decide_eq_true_eq, decide_eq_false_iff_not, Decidable.not_not] at h0
    have hkn : k < 4 := by
      rcases Nat.lt_or_ge k 4 with h | h
      · exact h
      · have e : k = 4 := by omega
        subst e
        simp [UInt64.lt_iff_toNat_lt] at h0 ht
        omega
    refine skip ?_
    refine pN ?_
    refine seq ?_
    refine block ?_
    refine region ?_
    refine cons (opv (Ev.move (.t rfl)) ?_)
    refine cons (opv (Ev.add_i (.t rfl) (.c (v := I 1) rfl) (fun _ => by omega)) ?_)
    refine cons (opv (Ev.assign (.t rfl)) ?_)
    refine nil ?_
    refine bN ?_
    refine pN ?_
    refine region ?_
    refine cons (opv (Ev.move (.t rfl)) ?_)
    refine cons (opv (Ev.shr_u64 (.t rfl) (.c rfl) (fun _ => by decide)) ?_)
    refine cons (opv (Ev.assign (.t rfl)) ?_)
    refine nil ?_
    refine pN ?_
    refine next (X := Nat × UInt64) (k + 1, shr64 t 8) ⟨?_, ?_⟩ ?_ (by repeat first | exact Sub.nil | refine Sub.cons rfl ?_) (by repeat first | exact sR | exact sN | apply sC | apply sS | apply sA)
    · try dsimp only
      omega
    · try dsimp only
      rw [toNat_shr64]; have e : 4 - k = (4 - (k + 1)) + 1 := by omega
      rw [e, Nat.pow_succ] at ht
      omega
    · try dsimp only
      first | omega | (simp; omega)
  · try simp only [Bool.and_eq_true, Bool.or_eq_true, Bool.or_eq_false_iff, Bool.and_eq_false_iff, Bool.not_eq_true', Bool.not_eq_false', decide_eq_true_eq, decide_eq_false_iff_not, Decidable.not_not] at h0
    have hkn : k = 4 := by
      rcases Nat.lt_or_ge k 4 with h | h
      · have e : 4 - k = (4 - (k + 1)) + 1 := by omega
        have hp : 0 < 256 ^ (4 - (k + 1)) := Nat.pow_pos (by decide)
        rw [e, Nat.pow_succ] at ht
        simp [UInt64.lt_iff_toNat_lt] at h0
        omega
      · omega
    subst hkn
    refine exit ?_
    refine pX ?_
    refine pX ?_
    refine bX ?_
    refine pN ?_
    refine seq ?_
    refine region ?_
    refine cons (opv (Ev.move (.t rfl)) ?_)
    refine cons (opv (Ev.assign (.t rfl)) ?_)
    refine nil ?_
    refine pN ?_
    refine ret ?_
    refine done rfl (.tmp rfl .nil) (retE ?_)
    first | rfl | (simp; done)

theorem en66 : Enters Try.prog 66 := Enters.mk' (by kernel_rfl)

theorem put_uint32_ok (u : Value) (b : List UInt8) (v : UInt32) (w : World) (hb : IsSl u8E w u b) (hl : b.length + 4 ≤ 140737488355328) :
    Calls Try.prog 54 #[u, U32 v] w (RetO w u8E (b ++ putB 4 v.toUInt64) 5) := by
  have hbl := hb.le
  refine enter0 34 Try.func54 rfl rfl (Nat.le_of_ble_eq_true rfl) ?_
  refine seq ?_
  refine region ?_
  refine cons (opv (Ev.assign (.c (v := (Go.Value.slice none 0 0)) rfl)) ?_)
  refine nil ?_
  refine pN ?_
  refine seq ?_
  refine region ?_
  refine cons (callv en66 .nil (fun w I => width_uint32_ok w) ?_)
  refine cons (opv (Ev.assign (.t rfl)) ?_)
  refine nil ?_
  refine pN ?_
  refine seq ?_
  refine region ?_
  refine cons (opv (Ev.move (.t rfl)) ?_)
  refine cons (opv (Ev.len Try.underlying27 (.t rfl) (by first | exact isSl_own (by repeat first | exact mH | apply mT | apply mA) | exact fun w I => IsSl.keep0 (by assumption) I.keeps)) ?_)
  refine cons (opv (Ev.move (.t rfl)) ?_)
  refine cons (opv (Ev.len Try.underlying27 (.t rfl) (by first | exact isSl_own (by repeat first | exact mH | apply mT | apply mA) | exact fun w I => IsSl.keep0 (by assumption) I.keeps)) ?_)
  refine cons (opv (Ev.move (.t rfl)) ?_)
  refine cons (opv (Ev.add_i (.t rfl) (.t rfl) (fun _ => by omega)) ?_)
  refine cons (makeSl (E := u8E) Try.underlying27 ty5 rfl zb5 (.t rfl) (.t rfl) ⟨by omega, by omega⟩ ⟨by omega, by omega⟩ (fun o1 => ?_))
  refine cons (opv (Ev.assign (.t rfl)) ?_)
  refine nil ?_
  refine pN ?_
  refine seq ?_
  refine region ?_
  refine cons (opv (Ev.move (.t rfl)) ?_)
  refine cons (opv (Ev.move (.t rfl)) ?_)
  refine cons (copyO (E := u8E) Try.underlying27 ty5 (.t rfl) (.t rfl) (by repeat first | exact Upd.head | apply Upd.tail) (fun w I => hb.keep0 I.keeps) ?_)
  refine nil ?_
  refine pN ?_
  refine seq ?_
  refine seq ?_
  refine region ?_
  refine cons (opv (Ev.move (.t rfl)) ?_)
  refine cons (opv (Ev.sub_i (.t rfl) (.c (v := I 1) rfl) (fun _ => by omega)) ?_)
  refine cons (opv (Ev.assign (.t rfl)) ?_)
  refine nil ?_
  refine pN ?_
  refine block ?_
  have e1 : (List.replicate (Int.toNat (b.length : Int)) u8E.zero) = List.replicate b.length (0 : UInt8) := by rw [Int.toNat_natCast]; rfl
  rw [e1]
  have e2 : b.take (List.replicate b.length (0 : UInt8)).length ++ (List.replicate b.length (0 : UInt8)).drop b.length = b := by simp
  rw [e2]
  refine loop (X := Int × OV × (List UInt8)) (fun x : Int × OV × (List UInt8) => (-1 ≤ x.1 ∧ x.1 ≤ 3) ∧ (x.2.2 ++ putB (x.1 + 1).toNat v.toUInt64 = b ++ putB 4 v.toUInt64)) (fun x : Int × OV × (List UInt8) => [(1, true, U32 v), (5, true, I x.1), (6, true, x.2.1.v)]) (fun x : Int × OV × (List UInt8) => [OwnS x.2.1.v u8E x.2.2 5]) (fun x : Int × OV × (List UInt8) => (x.1 + 1).toNat) (_, o1, b) ⟨?_, ?_⟩ (by repeat first | exact Sub.nil | refine Sub.cons rfl ?_) (by repeat first | exact sR | exact sN | apply sC | apply sS | apply sA) (fun x hx => ?_)
  · omega
  · rfl
  obtain ⟨i, o, xs⟩ := x
  obtain ⟨hi, hxs⟩ : (-1 ≤ i ∧ i ≤ 3) ∧ (xs ++ putB (i + 1).toNat v.toUInt64 = b ++ putB 4 v.toUInt64) := hx
  show Sat _ _ [(1, true, U32 v), (5, true, I i), (6, true, o.v)] [OwnS o.v u8E xs 5]
  refine seq ?_
  refine seq ?_
  refine region ?_
  refine cons (opv (Ev.move (.t rfl)) ?_)
  refine cons (opv (Ev.geq_i (.t rfl) (.c (v := I 0) rfl)) ?_)
  refine nil ?_
  refine pN ?_
  first | refine condD rfl (fun h0 => ?_) (fun h0 => ?_) | refine cond rfl (fun h0 => ?_) (fun h0 => ?_)
  · try simp only [Bool.and_eq_true, Bool.or_eq_true, Bool.or_eq_false_iff, Bool.and_eq_false_iff, Bool.not_eq_true', Bool.not_eq_false', decide_eq_true_eq, decide_eq_false_iff_not, Decidable.not_not] at h0
    have hlen : xs.length + (i + 1).toNat = b.length + 4 := by
      have := congrArg List.length hxs
      simpa [putB_length] using this
    refine skip ?_
    refine pN ?_
    refine seq ?_
    refine block ?_
    refine region ?_
    refine cons (opv (Ev.move (.t rfl)) ?_)
    refine cons (opv (Ev.move (.t rfl)) ?_)
    refine cons (opv (Ev.conv_u32_u64 Try.underlying66 Try.underlying26 (.t rfl)) ?_)
    refine cons (opv (Ev.move (.t rfl)) ?_)
    refine cons (opv (Ev.mul_i (.c (v := I 8) rfl) (.t rfl) (fun _ => by omega)) ?_)
    refine cons (opv (Ev.shr_u64 (.t rfl) (.t rfl) (fun _ => by omega)) ?_)
    refine cons (opv (Ev.conv_u64_u8 Try.underlying5 Try.underlying66 (.t rfl)) ?_)
    refine cons (buildSlice (E := u8E) Try.underlying27 ty5 z5 (.cons (.t rfl) .nil) rfl rfl (fun v1 => ?_))
    refine cons (append (E := u8E) Try.underlying27 ty5 rfl zb5 zs5 (.t rfl) (.t rfl) (fun _ => by repeat first | exact Upd.head | apply Upd.tail | apply Upd.right) (by first | exact isSl_own (by repeat first | exact mH | apply mT | apply mA) | exact fun w I => IsSl.keep0 (by assumption) I.keeps) (⟨by (show _ ≤ 9223372036854775807); simp; omega, by simp; omega⟩) (fun v2 => ?_))
    refine cons (opv (Ev.assign (.t rfl)) ?_)
    refine nil ?_
    refine bN ?_
    refine pN ?_
    refine region ?_
    refine cons (opv (Ev.move (.t rfl)) ?_)
    refine cons (opv (Ev.sub_i (.t rfl) (.c (v := I 1) rfl) (fun _ => by omega)) ?_)
    refine cons (opv (Ev.assign (.t rfl)) ?_)
    refine nil ?_
    refine pN ?_
    refine next (X := Int × OV × (List UInt8)) (i - 1, _, _) ⟨?_, ?_⟩ ?_ (by repeat first | exact Sub.nil | refine Sub.cons rfl ?_) (by repeat first | exact sR | exact sN | apply sC | apply sS | apply sA)
    · try dsimp only
      omega
    · try dsimp only
      rw [← hxs]
      have e : (i + 1).toNat = (i - 1 + 1).toNat + 1 := by omega
      have e3 : (8 * i).toNat = 8 * (i - 1 + 1).toNat := by omega
      rw [e, List.append_assoc, List.append_cancel_left_eq, e3]
      rfl
    · try dsimp only
      omega
  · try simp only [Bool.and_eq_true, Bool.or_eq_true, Bool.or_eq_false_iff, Bool.and_eq_false_iff, Bool.not_eq_true', Bool.not_eq_false', decide_eq_true_eq, decide_eq_false_iff_not, Decidable.not_not] at h0
    have hi1 : (i + 1).toNat = 0 := by omega
    rw [hi1] at hxs
    simp only [putB, List.append_nil] at hxs
    subst hxs
    refine exit ?_
    refine pX ?_
    refine pX ?_
    refine bX ?_
    refine pN ?_
    refine seq ?_
    refine region ?_
    refine cons (opv (Ev.move (.t rfl)) ?_)
    refine cons (opv (Ev.assign (.t rfl)) ?_)
    refine nil ?_
    refine pN ?_
    refine ret ?_
    refine done rfl (.tmp rfl .nil) (retOE (by repeat first | exact mH | apply mT | apply mA) ?_)
    rfl

theorem sameBytes_ok (u v : Value) (a b : List UInt8) (w : World) (ha : IsSl u8E w u a) (hb : IsSl u8E w v b) :
    Calls Try.prog 18 #[u, v] w (RetV w (.bool (decide (a = b)))) := by
  have hal := ha.le
  have hbl := hb.le
  refine enter0 26 Try.func18 rfl rfl (Nat.le_of_ble_eq_true rfl) ?_
  refine seq ?_
  refine region ?_
  refine cons (opv (Ev.assign (.c (v := .bool false) rfl)) ?_)
  refine nil ?_
  refine pN ?_
  refine seq ?_
  refine seq ?_
  refine region ?_
  refine cons (opv (Ev.move (.t rfl)) ?_)
  refine cons (opv (Ev.len Try.underlying27 (.t rfl) (by first | exact isSl_own (by repeat first | exact mH | apply mT | apply mA) | exact fun w I => IsSl.keep0 (by assumption) I.keeps)) ?_)
  refine cons (opv (Ev.move (.t rfl)) ?_)
  refine cons (opv (Ev.len Try.underlying27 (.t rfl) (by first | exact isSl_own (by repeat first | exact mH | apply mT | apply mA) | exact fun w I => IsSl.keep0 (by assumption) I.keeps)) ?_)
  refine cons (opv (Ev.neq_i (.t rfl) (.t rfl)) ?_)
  refine nil ?_
  refine pN ?_
  first | refine condD rfl (fun hne => ?_) (fun hlen => ?_) | refine cond rfl (fun hne => ?_) (fun hlen => ?_)
  · try simp only [Bool.and_eq_true, Bool.or_eq_true, Bool.or_eq_false_iff, Bool.and_eq_false_iff, Bool.not_eq_true', Bool.not_eq_false', decide_eq_true_eq, decide_eq_false_iff_not, Decidable.not_not] at hne
    refine seq ?_
    refine region ?_
    refine cons (opv (Ev.assign (.c (v := .bool false) rfl)) ?_)
    refine nil ?_
    refine pN ?_
    refine ret ?_
    refine pR ?_
    refine done rfl (.tmp rfl .nil) (retE ?_)
    first
      | exact bF (fun e => by subst e; omega)
      | exact bF (fun e => by subst e; exact h2' rfl)
      | exact bT (by
          have e : i.toNat = a.length := by omega
          rw [e, List.take_length, List.take_of_length_le (by omega)] at ht
          exact ht)
  · try simp only [Bool.and_eq_true, Bool.or_eq_true, Bool.or_eq_false_iff, Bool.and_eq_false_iff, Bool.not_eq_true', Bool.not_eq_false', decide_eq_true_eq, decide_eq_false_iff_not, Decidable.not_not] at hlen
    refine skip ?_
    refine pN ?_
    refine seq ?_
    refine seq ?_
    refine region ?_
    refine cons (opv (Ev.assign (.c (v := I 0) rfl)) ?_)
    refine nil ?_
    refine pN ?_
    refine block ?_
    refine loop (X := Int) (fun x : Int => (0 ≤ x ∧ x ≤ a.length) ∧ (a.take x.toNat = b.take x.toNat)) (fun x : Int => [(0, true, u), (1, true, v), (5, true, I x)]) (fun x : Int => []) (fun x : Int => (a.length - x).toNat) (0) ⟨?_, ?_⟩ (by repeat first | exact Sub.nil | refine Sub.cons rfl ?_) (by repeat first | exact sR | exact sN | apply sC | apply sS | apply sA) (fun x hx => ?_)
    · omega
    · rfl
    obtain ⟨i, rfl⟩ : ∃ y, y = x := ⟨x, rfl⟩
    obtain ⟨hi, ht⟩ : (0 ≤ i ∧ i ≤ a.length) ∧ (a.take i.toNat = b.take i.toNat) := hx
    show Sat _ _ [(0, true, u), (1, true, v), (5, true, I i)] []
    refine seq ?_
    refine seq ?_
    refine region ?_
    refine cons (opv (Ev.move (.t rfl)) ?_)
    refine cons (opv (Ev.move (.t rfl)) ?_)
    refine cons (opv (Ev.len Try.underlying27 (.t rfl) (by first | exact isSl_own (by repeat first | exact mH | apply mT | apply mA) | exact fun w I => IsSl.keep0 (by assumption) I.keeps)) ?_)
    refine cons (opv (Ev.lss_i (.t rfl) (.t rfl)) ?_)
    refine nil ?_
    refine pN ?_
    first | refine condD rfl (fun hlt => ?_) (fun hge => ?_) | refine cond rfl (fun hlt => ?_) (fun hge => ?_)
    · try simp only [Bool.and_eq_true, Bool.or_eq_true, Bool.or_eq_false_iff, Bool.and_eq_false_iff, Bool.not_eq_true', Bool.not_eq_false', decide_eq_true_eq, decide_eq_false_iff_not, Decidable.not_not] at hlt
      refine skip ?_
      refine pN ?_
      refine seq ?_
      refine block ?_
      refine seq ?_
      refine draw' (by kernel_rfl) ?_
      refine take 0 rfl (by kernel_rfl) (by kernel_rfl) (by kernel_rfl) (by repeat first | exact sR | exact sN | apply sC | apply sS | apply sA) (Ev.move (.t rfl)) ?_
      refine take 1 rfl (by kernel_rfl) (by kernel_rfl) (by kernel_rfl) (by repeat first | exact sR | exact sN | apply sC | apply sS | apply sA) (Ev.move (.t rfl)) ?_
      refine take 2 rfl (by kernel_rfl) (by kernel_rfl) (by kernel_rfl) (by repeat first | exact sR | exact sN | apply sC | apply sS | apply sA) (Ev.indexAddr Try.underlying27 ty5 (.t rfl) (.t rfl) (by first | exact isSl_own (by repeat first | exact mH | apply mT | apply mA) | exact fun w I => IsSl.keep0 (by assumption) I.keeps) (fun _ => by omega)) ?_
      refine take 3 rfl (by kernel_rfl) (by kernel_rfl) (by kernel_rfl) (by repeat first | exact sR | exact sN | apply sC | apply sS | apply sA) (Ev.loadS0 ty5 (.t rfl) (by first | exact isSl_own (by repeat first | exact mH | apply mT | apply mA) | exact fun w I => IsSl.keep0 (by assumption) I.keeps) (fun _ => by omega)) ?_
      refine take 4 rfl (by kernel_rfl) (by kernel_rfl) (by kernel_rfl) (by repeat first | exact sR | exact sN | apply sC | apply sS | apply sA) (Ev.move (.t rfl)) ?_
      refine take 5 rfl (by kernel_rfl) (by kernel_rfl) (by kernel_rfl) (by repeat first | exact sR | exact sN | apply sC | apply sS | apply sA) (Ev.move (.t rfl)) ?_
      refine take 6 rfl (by kernel_rfl) (by kernel_rfl) (by kernel_rfl) (by repeat first | exact sR | exact sN | apply sC | apply sS | apply sA) (Ev.indexAddr Try.underlying27 ty5 (.t rfl) (.t rfl) (by first | exact isSl_own (by repeat first | exact mH | apply mT | apply mA) | exact fun w I => IsSl.keep0 (by assumption) I.keeps) (fun _ => by omega)) ?_
      refine take 7 rfl (by kernel_rfl) (by kernel_rfl) (by kernel_rfl) (by repeat first | exact sR | exact sN | apply sC | apply sS | apply sA) (Ev.loadS0 ty5 (.t rfl) (by first | exact isSl_own (by repeat first | exact mH | apply mT | apply mA) | exact fun w I => IsSl.keep0 (by assumption) I.keeps) (fun _ => by omega)) ?_
      refine take 8 rfl (by kernel_rfl) (by kernel_rfl) (by kernel_rfl) (by repeat first | exact sR | exact sN | apply sC | apply sS | apply sA) (Ev.neq_u8 (.t rfl) (.t rfl)) ?_
      refine over (by kernel_rfl) ?_
      refine pN ?_
      first | refine condD rfl (fun h2' => ?_) (fun h2' => ?_) | refine cond rfl (fun h2' => ?_) (fun h2' => ?_)
      · try simp only [Bool.and_eq_true, Bool.or_eq_true, Bool.or_eq_false_iff, Bool.and_eq_false_iff, Bool.not_eq_true', Bool.not_eq_false', decide_eq_true_eq, decide_eq_false_iff_not, Decidable.not_not] at h2'
        refine seq ?_
        refine region ?_
        refine cons (opv (Ev.assign (.c (v := .bool false) rfl)) ?_)
        refine nil ?_
        refine pN ?_
        refine ret ?_
        refine bR ?_
        refine pR ?_
        refine pR ?_
        refine bR ?_
        refine pR ?_
        refine done rfl (.tmp rfl .nil) (retE ?_)
        first
          | exact bF (fun e => by subst e; omega)
          | exact bF (fun e => by subst e; exact h2' rfl)
          | exact bT (by
              have e : i.toNat = a.length := by omega
              rw [e, List.take_length, List.take_of_length_le (by omega)] at ht
              exact ht)
      · try simp only [Bool.and_eq_true, Bool.or_eq_true, Bool.or_eq_false_iff, Bool.and_eq_false_iff, Bool.not_eq_true', Bool.not_eq_false', decide_eq_true_eq, decide_eq_false_iff_not, Decidable.not_not] at h2'
        refine skip ?_
        refine bN ?_
        refine pN ?_
        refine region ?_
        refine cons (opv (Ev.move (.t rfl)) ?_)
        refine cons (opv (Ev.add_i (.t rfl) (.c (v := I 1) rfl) (fun _ => by omega)) ?_)
        refine cons (opv (Ev.assign (.t rfl)) ?_)
        refine nil ?_
        refine pN ?_
        refine next (X := Int) (i + 1) ⟨?_, ?_⟩ ?_ (by repeat first | exact Sub.nil | refine Sub.cons rfl ?_) (by repeat first | exact sR | exact sN | apply sC | apply sS | apply sA)
        · try dsimp only
          omega
        · try dsimp only
          have e : (i + 1).toNat = i.toNat + 1 := by omega
          have h1 : i.toNat < a.length := by omega
          have h2 : i.toNat < b.length := by omega
          rw [e, List.take_succ_eq_append_getElem h1, List.take_succ_eq_append_getElem h2, ht]
          simp [List.getD, h1, h2] at h2'
          rw [h2']
        · try dsimp only
          omega
    · try simp only [Bool.and_eq_true, Bool.or_eq_true, Bool.or_eq_false_iff, Bool.and_eq_false_iff, Bool.not_eq_true', Bool.not_eq_false', decide_eq_true_eq, decide_eq_false_iff_not, Decidable.not_not] at hge
      refine exit ?_
      refine pX ?_
      refine pX ?_
      refine bX ?_
      refine pN ?_
      refine seq ?_
      refine region ?_
      refine cons (opv (Ev.assign (.c (v := .bool true) rfl)) ?_)
      refine nil ?_
      refine pN ?_
      refine ret ?_
      refine done rfl (.tmp rfl .nil) (retE ?_)
      first
        | exact bF (fun e => by subst e; omega)
        | exact bF (fun e => by subst e; exact h2' rfl)
        | exact bT (by
            have e : i.toNat = a.length := by omega
            rw [e, List.take_length, List.take_of_length_le (by omega)] at ht
            exact ht)

/-- Bytes as a number, the highest first. -/
def numB (l : List UInt8) : UInt64 := l.foldl (fun v x => v * 256 + x.toUInt64) 0
theorem or_byte (v : UInt64) (x : UInt8) : shl64 v 8 ||| x.toUInt64 = v * 256 + x.toUInt64 := by
  apply UInt64.toNat_inj.1
  have hx := x.toNat_lt
  rw [UInt64.toNat_or, toNat_shl64, UInt64.toNat_add, UInt64.toNat_mul, UInt8.toNat_toUInt64]
  have e1 : v.toNat * 2 ^ 8 % 18446744073709551616 = 2 ^ 8 * (v.toNat % 72057594037927936) := by omega
  rw [e1, ← Nat.two_pow_add_eq_or_of_lt (by omega : x.toNat < 2 ^ 8)]
  have e2 : UInt64.toNat 256 = 256 := rfl
  rw [e2]
  omega
theorem numB_snoc (l : List UInt8) (x : UInt8) : numB (l ++ [x]) = numB l * 256 + x.toUInt64 := by simp [numB]
theorem take_snoc {α : Type} (l : List α) (i : Int) (h0 : 0 ≤ i) (h1 : i < l.length) (z : α) : l.take (i + 1).toNat = l.take i.toNat ++ [l.getD i.toNat z] := by
  have e : (i + 1).toNat = i.toNat + 1 := by omega
  have h2 : i.toNat < l.length := by omega
  rw [e, List.take_succ_eq_append_getElem h2]
  simp [List.getD, h2]
theorem numB_step (l : List UInt8) (i : Int) (h0 : 0 ≤ i) (h1 : i < l.length) : numB (l.take (i + 1).toNat) = numB (l.take i.toNat) * 256 + (l.getD i.toNat 0).toUInt64 := by
  rw [take_snoc l i h0 h1 0, numB_snoc]
theorem numB_lt_aux : ∀ (l : List UInt8) (v : UInt64), v.toNat * 256 ^ l.length + 256 ^ l.length ≤ 18446744073709551616 → (l.foldl (fun v x => v * 256 + x.toUInt64) v).toNat < v.toNat * 256 ^ l.length + 256 ^ l.length
  | [], v, _ => by simp
  | x :: l, v, h => by
    have hx := x.toNat_lt
    have hp : 0 < 256 ^ l.length := Nat.pow_pos (by decide)
    rw [List.length_cons, Nat.pow_succ] at h ⊢
    have e : (v * 256 + x.toUInt64).toNat = v.toNat * 256 + x.toNat := by
      rw [UInt64.toNat_add, UInt64.toNat_mul, UInt8.toNat_toUInt64]
      have e2 : UInt64.toNat 256 = 256 := rfl
      rw [e2]
      have h2 : (v.toNat * 256 + 256) * 256 ^ l.length ≤ 18446744073709551616 := by
        rw [Nat.add_mul, Nat.mul_assoc, Nat.mul_comm 256 (256 ^ l.length)]
        exact h
      have h3 : v.toNat * 256 + 256 ≤ (v.toNat * 256 + 256) * 256 ^ l.length := Nat.le_mul_of_pos_right _ hp
      omega
    have hs : (v.toNat * 256 + x.toNat) * 256 ^ l.length + 256 ^ l.length ≤ v.toNat * (256 ^ l.length * 256) + 256 ^ l.length * 256 := by
      have : (v.toNat * 256 + x.toNat + 1) * 256 ^ l.length ≤ (v.toNat * 256 + 256) * 256 ^ l.length := Nat.mul_le_mul_right _ (by omega)
      rw [Nat.add_mul _ 1, Nat.one_mul, Nat.add_mul _ 256, Nat.mul_assoc _ 256, Nat.mul_comm 256 (256 ^ l.length)] at this
      exact this
    have h4 := numB_lt_aux l (v * 256 + x.toUInt64) (by rw [e]; omega)
    rw [e] at h4
    rw [List.foldl_cons]
    omega
theorem numB_lt (l : List UInt8) (h : l.length ≤ 8) : (numB l).toNat < 256 ^ l.length := by
  have h1 : 256 ^ l.length ≤ 256 ^ 8 := Nat.pow_le_pow_right (by decide) h
  have h2 := numB_lt_aux l 0 (by simp only [UInt64.toNat_zero, Nat.zero_mul, Nat.zero_add]; exact h1)
  simp only [UInt64.toNat_zero, Nat.zero_mul, Nat.zero_add] at h2
  exact h2
/-- The number that stands at a place; and the error. -/
def takeB (b : List UInt8) (p : Int) (n : Nat) : UInt64 × Int := if 0 ≤ p ∧ p + n ≤ b.length then (numB ((b.take (p + n).toNat).drop p.toNat), 0) else (0, 5)
theorem takeB_lt (b : List UInt8) (p : Int) (n : Nat) (hn : n ≤ 8) : (takeB b p n).1.toNat < 256 ^ n := by
  unfold takeB
  split
  · rename_i h
    have hl : ((b.take (p + n).toNat).drop p.toNat).length = n := by simp; omega
    have := numB_lt ((b.take (p + n).toNat).drop p.toNat) (by omega)
    rw [hl] at this
    exact this
  · exact Nat.pow_pos (by decide)
theorem cut8 {v : UInt64} (h : v.toNat < 256 ^ 1) : v.toUInt8.toUInt64 = v := by
  apply UInt64.toNat_inj.1
  simp
  omega
theorem cut16 {v : UInt64} (h : v.toNat < 256 ^ 2) : v.toUInt16.toUInt64 = v := by
  apply UInt64.toNat_inj.1
  simp
  omega
theorem cut32 {v : UInt64} (h : v.toNat < 256 ^ 4) : v.toUInt32.toUInt64 = v := by
  apply UInt64.toNat_inj.1
  simp
  omega

theorem take_uint16_ok (u : Value) (b : List UInt8) (p : Int) (w : World) (hb : IsSl u8E w u b) : Calls Try.prog 61 #[u, I p] w (RetV w (.tuple #[U16 (takeB b p 2).1.toUInt16, I (takeB b p 2).2])) := by
  have hbl := hb.le
  refine enter0 41 Try.func61 rfl rfl (Nat.le_of_ble_eq_true rfl) ?_
  refine seq ?_
  refine region ?_
  refine cons (opv (Ev.assign (.c (v := U16 0) rfl)) ?_)
  refine cons (opv (Ev.assign (.c (v := I 0) rfl)) ?_)
  refine nil ?_
  refine pN ?_
  refine seq ?_
  refine region ?_
  refine cons (callv en65 .nil (fun w I => width_uint16_ok w) ?_)
  refine cons (opv (Ev.assign (.t rfl)) ?_)
  refine nil ?_
  refine pN ?_
  refine seq ?_
  refine seq ?_
  refine region ?_
  refine cons (opv (Ev.move (.t rfl)) ?_)
  refine cons (opv (Ev.lss_i (.t rfl) (.c (v := I 0) rfl)) ?_)
  refine cons (opv (Ev.move (.t rfl)) ?_)
  refine cons (opg rfl rfl (Ev.move (.t rfl)) ?_)
  refine cons (opg rfl rfl (Ev.move (.t rfl)) ?_)
  refine cons (opg rfl rfl (Ev.len Try.underlying27 (.g rfl id) (by first | exact isSl_own (by repeat first | exact mH | apply mT | apply mA) | exact fun w I => IsSl.keep0 (by assumption) I.keeps)) ?_)
  refine cons (opg rfl rfl (Ev.move (.t rfl)) ?_)
  refine cons (opg rfl rfl (Ev.sub_i (.g rfl id) (.g rfl id) (fun _ => by first | omega | (rename_i hg; simp at hg; omega))) ?_)
  refine cons (opg rfl rfl (Ev.gtr_i (.g rfl id) (.g rfl id)) ?_)
  refine cons (opv (Ev.pickO (.t rfl) (.c (v := .bool true) rfl) (fun {_} h => by cases h; rfl) ⟨_, rfl⟩ (by intro h1 h; first | (rw [h] <;> rfl) | (rw [h1, h] <;> rfl) | (rw [h, h1] <;> rfl) | simp_all)) ?_)
  refine nil ?_
  refine pN ?_
  first | refine condD rfl (fun h0 => ?_) (fun h0 => ?_) | refine cond rfl (fun h0 => ?_) (fun h0 => ?_)
  · try simp only [Bool.and_eq_true, Bool.or_eq_true, Bool.or_eq_false_iff, Bool.and_eq_false_iff, Bool.not_eq_true', Bool.not_eq_false', decide_eq_true_eq, decide_eq_false_iff_not, Decidable.not_not] at h0
    refine seq ?_
    refine region ?_
    refine cons (opv (Ev.assign (.c (v := U16 0) rfl)) ?_)
    refine cons (opv (Ev.assign (.c (v := I 5) rfl)) ?_)
    refine nil ?_
    refine pN ?_
    refine ret ?_
    refine pR ?_
    refine done rfl (.tmp rfl (.tmp rfl .nil)) (retE ?_)
    first
      | (have e : ¬ (0 ≤ p ∧ p + (2 : Nat) ≤ b.length) := by omega
         unfold takeB; rw [if_neg e]; rfl)
      | (have e : 0 ≤ p ∧ p + (2 : Nat) ≤ b.length := by omega
         have ei : i.toNat = 2 := by omega
         rw [ei, List.take_of_length_le (by omega)] at hv
         unfold takeB; rw [if_pos e]
         have hxs' : (b.take (p + (2 : Nat)).toNat).drop p.toNat = xs := hxs
         rw [hxs', ← hv]; rfl)
  · try simp only [Bool.and_eq_true, Bool.or_eq_true, Bool.or_eq_false_iff, Bool.and_eq_false_iff, Bool.not_eq_true', Bool.not_eq_false', decide_eq_true_eq, decide_eq_false_iff_not, Decidable.not_not] at h0
    refine skip ?_
    refine pN ?_
    refine seq ?_
    refine region ?_
    refine cons (opv (Ev.assign (.c (v := U64 0) rfl)) ?_)
    refine nil ?_
    refine pN ?_
    refine seq ?_
    refine seq ?_
    refine region ?_
    refine cons (opv (Ev.move (.t rfl)) ?_)
    refine cons (opv (Ev.move (.t rfl)) ?_)
    refine cons (opv (Ev.move (.t rfl)) ?_)
    refine cons (opv (Ev.move (.t rfl)) ?_)
    refine cons (opv (Ev.add_i (.t rfl) (.t rfl) (fun _ => by omega)) ?_)
    refine cons (opv (Ev.slice Try.underlying27 ty5 (.t rfl) (.t rfl) (.t rfl) (by first | exact isSl_own (by repeat first | exact mH | apply mT | apply mA) | exact fun w I => IsSl.keep0 (by assumption) I.keeps) (fun _ => by omega)) ?_)
    refine cons (opv (Ev.len Try.underlying27 (.t rfl) (fun w I => IsSl.sub (w := w) (by first | exact isSl_own (by repeat first | exact mH | apply mT | apply mA) w I | exact IsSl.keep0 (by assumption) I.keeps) (by omega) (by omega))) ?_)
    refine cons (opv (Ev.move (.c (v := I 0) rfl)) ?_)
    refine nil ?_
    refine pN ?_
    refine block ?_
    have hs := hb.sub (l := p.toNat) (k := (p + 2).toNat) (by omega) (by omega)
    have hxl : ((b.take (p + 2).toNat).drop p.toNat).length = 2 := by simp; omega
    rw [hxl]
    generalize hxs : (b.take (p + 2).toNat).drop p.toNat = xs at hs hxl
    refine loop (X := Int × UInt64) (fun x : Int × UInt64 => (0 ≤ x.1 ∧ x.1 ≤ 2) ∧ (x.2 = numB (xs.take x.1.toNat))) (fun x : Int × UInt64 => [(7, true, U64 x.2), (26, true, subS u8E.size u p.toNat (p + 2).toNat), (27, true, I 2), (28, true, I x.1)]) (fun x : Int × UInt64 => []) (fun x : Int × UInt64 => (2 - x.1).toNat) (0, _) ⟨?_, ?_⟩ (by repeat first | exact Sub.nil | refine Sub.cons rfl ?_) (by repeat first | exact sR | exact sN | apply sC | apply sS | apply sA) (fun x hx => ?_)
    · omega
    · rfl
    obtain ⟨i, v⟩ := x
    obtain ⟨hi, hv⟩ : (0 ≤ i ∧ i ≤ 2) ∧ (v = numB (xs.take i.toNat)) := hx
    show Sat _ _ [(7, true, U64 v), (26, true, subS u8E.size u p.toNat (p + 2).toNat), (27, true, I 2), (28, true, I i)] []
    refine seq ?_
    refine region ?_
    refine cons (opv (Ev.lss_i (.t rfl) (.t rfl)) ?_)
    refine nil ?_
    refine pN ?_
    refine seq ?_
    first | refine condD rfl (fun h1 => ?_) (fun h1 => ?_) | refine cond rfl (fun h1 => ?_) (fun h1 => ?_)
    · try simp only [Bool.and_eq_true, Bool.or_eq_true, Bool.or_eq_false_iff, Bool.and_eq_false_iff, Bool.not_eq_true', Bool.not_eq_false', decide_eq_true_eq, decide_eq_false_iff_not, Decidable.not_not] at h1
      refine skip ?_
      refine pN ?_
      refine seq ?_
      refine block ?_
      refine seq ?_
      refine region ?_
      refine cons (opv (Ev.indexAddr Try.underlying27 ty5 (.t rfl) (.t rfl) (fun w I => hs.keep0 I.keeps) (fun _ => by omega)) ?_)
      refine cons (opv (Ev.loadS0 ty5 (.t rfl) (fun w I => hs.keep0 I.keeps) (fun _ => by omega)) ?_)
      refine cons (opv (Ev.assign (.t rfl)) ?_)
      refine nil ?_
      refine pN ?_
      refine seq ?_
      refine region ?_
      refine cons (opv (Ev.move (.t rfl)) ?_)
      refine cons (opv (Ev.shl_u64 (.t rfl) (.c rfl) (fun _ => by decide)) ?_)
      refine cons (opv (Ev.assign (.t rfl)) ?_)
      refine nil ?_
      refine pN ?_
      refine region ?_
      refine cons (opv (Ev.move (.t rfl)) ?_)
      refine cons (opv (Ev.move (.t rfl)) ?_)
      refine cons (opv (Ev.conv_u8_u64 Try.underlying66 Try.underlying5 (.t rfl)) ?_)
      refine cons (opv (Ev.or_u64 (.t rfl) (.t rfl)) ?_)
      refine cons (opv (Ev.assign (.t rfl)) ?_)
      refine nil ?_
      refine bN ?_
      refine pN ?_
      refine region ?_
      refine cons (opv (Ev.add_i (.t rfl) (.c (v := I 1) rfl) (fun _ => by omega)) ?_)
      refine cons (opv (Ev.move (.t rfl)) ?_)
      refine nil ?_
      refine pN ?_
      refine next (X := Int × UInt64) (i + 1, _) ⟨?_, ?_⟩ ?_ (by repeat first | exact Sub.nil | refine Sub.cons rfl ?_) (by repeat first | exact sR | exact sN | apply sC | apply sS | apply sA)
      · try dsimp only
        omega
      · try dsimp only
        rw [numB_step xs i hi.1 (by omega), ← or_byte, ← hv]
        rfl
      · try dsimp only
        omega
    · try simp only [Bool.and_eq_true, Bool.or_eq_true, Bool.or_eq_false_iff, Bool.and_eq_false_iff, Bool.not_eq_true', Bool.not_eq_false', decide_eq_true_eq, decide_eq_false_iff_not, Decidable.not_not] at h1
      refine exit ?_
      refine pX ?_
      refine pX ?_
      refine bX ?_
      refine pN ?_
      refine seq ?_
      refine region ?_
      refine cons (opv (Ev.move (.t rfl)) ?_)
      refine cons (opv (Ev.conv_u64_u16 Try.underlying25 Try.underlying66 (.t rfl)) ?_)
      refine cons (opv (Ev.assign (.t rfl)) ?_)
      refine cons (opv (Ev.assign (.c (v := I 0) rfl)) ?_)
      refine nil ?_
      refine pN ?_
      refine ret ?_
      refine done rfl (.tmp rfl (.tmp rfl .nil)) (retE ?_)
      first
        | (have e : ¬ (0 ≤ p ∧ p + (2 : Nat) ≤ b.length) := by omega
           unfold takeB; rw [if_neg e]; rfl)
        | (have e : 0 ≤ p ∧ p + (2 : Nat) ≤ b.length := by omega
           have ei : i.toNat = 2 := by omega
           rw [ei, List.take_of_length_le (by omega)] at hv
           unfold takeB; rw [if_pos e]
           have hxs' : (b.take (p + (2 : Nat)).toNat).drop p.toNat = xs := hxs
           rw [hxs', ← hv]; rfl)

theorem take_uint32_ok (u : Value) (b : List UInt8) (p : Int) (w : World) (hb : IsSl u8E w u b) : Calls Try.prog 62 #[u, I p] w (RetV w (.tuple #[U32 (takeB b p 4).1.toUInt32, I (takeB b p 4).2])) := by
  have hbl := hb.le
  refine enter0 41 Try.func62 rfl rfl (Nat.le_of_ble_eq_true rfl) ?_
  refine seq ?_
  refine region ?_
  refine cons (opv (Ev.assign (.c (v := U32 0) rfl)) ?_)
  refine cons (opv (Ev.assign (.c (v := I 0) rfl)) ?_)
  refine nil ?_
  refine pN ?_
  refine seq ?_
  refine region ?_
  refine cons (callv en66 .nil (fun w I => width_uint32_ok w) ?_)
  refine cons (opv (Ev.assign (.t rfl)) ?_)
  refine nil ?_
  refine pN ?_
  refine seq ?_
  refine seq ?_
  refine region ?_
  refine cons (opv (Ev.move (.t rfl)) ?_)
  refine cons (opv (Ev.lss_i (.t rfl) (.c (v := I 0) rfl)) ?_)
  refine cons (opv (Ev.move (.t rfl)) ?_)
  refine cons (opg rfl rfl (Ev.move (.t rfl)) ?_)
  refine cons (opg rfl rfl (Ev.move (.t rfl)) ?_)
  refine cons (opg rfl rfl (Ev.len Try.underlying27 (.g rfl id) (by first | exact isSl_own (by repeat first | exact mH | apply mT | apply mA) | exact fun w I => IsSl.keep0 (by assumption) I.keeps)) ?_)
  refine cons (opg rfl rfl (Ev.move (.t rfl)) ?_)
  refine cons (opg rfl rfl (Ev.sub_i (.g rfl id) (.g rfl id) (fun _ => by first | omega | (rename_i hg; simp at hg; omega))) ?_)
  refine cons (opg rfl rfl (Ev.gtr_i (.g rfl id) (.g rfl id)) ?_)
  refine cons (opv (Ev.pickO (.t rfl) (.c (v := .bool true) rfl) (fun {_} h => by cases h; rfl) ⟨_, rfl⟩ (by intro h1 h; first | (rw [h] <;> rfl) | (rw [h1, h] <;> rfl) | (rw [h, h1] <;> rfl) | simp_all)) ?_)
  refine nil ?_
  refine pN ?_
  first | refine condD rfl (fun h0 => ?_) (fun h0 => ?_) | refine cond rfl (fun h0 => ?_) (fun h0 => ?_)
  · try simp only [Bool.and_eq_true, Bool.or_eq_true, Bool.or_eq_false_iff, Bool.and_eq_false_iff, Bool.not_eq_true', Bool.not_eq_false', decide_eq_true_eq, decide_eq_false_iff_not, Decidable.not_not] at h0
    refine seq ?_
    refine region ?_
    refine cons (opv (Ev.assign (.c (v := U32 0) rfl)) ?_)
    refine cons (opv (Ev.assign (.c (v := I 5) rfl)) ?_)
    refine nil ?_
    refine pN ?_
    refine ret ?_
    refine pR ?_
    refine done rfl (.tmp rfl (.tmp rfl .nil)) (retE ?_)
    first
      | (have e : ¬ (0 ≤ p ∧ p + (4 : Nat) ≤ b.length) := by omega
         unfold takeB; rw [if_neg e]; rfl)
      | (have e : 0 ≤ p ∧ p + (4 : Nat) ≤ b.length := by omega
         have ei : i.toNat = 4 := by omega
         rw [ei, List.take_of_length_le (by omega)] at hv
         unfold takeB; rw [if_pos e]
         have hxs' : (b.take (p + (4 : Nat)).toNat).drop p.toNat = xs := hxs
         rw [hxs', ← hv]; rfl)
  · try simp only [Bool.and_eq_true, Bool.or_eq_true, Bool.or_eq_false_iff, Bool.and_eq_false_iff, Bool.not_eq_true', Bool.not_eq_false', decide_eq_true_eq, decide_eq_false_iff_not, Decidable.not_not] at h0
    refine skip ?_
    refine pN ?_
    refine seq ?_
    refine region ?_
    refine cons (opv (Ev.assign (.c (v := U64 0) rfl)) ?_)
    refine nil ?_
    refine pN ?_
    refine seq ?_
    refine seq ?_
    refine region ?_
    refine cons (opv (Ev.move (.t rfl)) ?_)
    refine cons (opv (Ev.move (.t rfl)) ?_)
    refine cons (opv (Ev.move (.t rfl)) ?_)
    refine cons (opv (Ev.move (.t rfl)) ?_)
    refine cons (opv (Ev.add_i (.t rfl) (.t rfl) (fun _ => by omega)) ?_)
    refine cons (opv (Ev.slice Try.underlying27 ty5 (.t rfl) (.t rfl) (.t rfl) (by first | exact isSl_own (by repeat first | exact mH | apply mT | apply mA) | exact fun w I => IsSl.keep0 (by assumption) I.keeps) (fun _ => by omega)) ?_)
    refine cons (opv (Ev.len Try.underlying27 (.t rfl) (fun w I => IsSl.sub (w := w) (by first | exact isSl_own (by repeat first | exact mH | apply mT | apply mA) w I | exact IsSl.keep0 (by assumption) I.keeps) (by omega) (by omega))) ?_)
    refine cons (opv (Ev.move (.c (v := I 0) rfl)) ?_)
    refine nil ?_
    refine pN ?_
    refine block ?_
    have hs := hb.sub (l := p.toNat) (k := (p + 4).toNat) (by omega) (by omega)
    have hxl : ((b.take (p + 4).toNat).drop p.toNat).length = 4 := by simp; omega
    rw [hxl]
    generalize hxs : (b.take (p + 4).toNat).drop p.toNat = xs at hs hxl
    refine loop (X := Int × UInt64) (fun x : Int × UInt64 => (0 ≤ x.1 ∧ x.1 ≤ 4) ∧ (x.2 = numB (xs.take x.1.toNat))) (fun x : Int × UInt64 => [(7, true, U64 x.2), (26, true, subS u8E.size u p.toNat (p + 4).toNat), (27, true, I 4), (28, true, I x.1)]) (fun x : Int × UInt64 => []) (fun x : Int × UInt64 => (4 - x.1).toNat) (0, _) ⟨?_, ?_⟩ (by repeat first | exact Sub.nil | refine Sub.cons rfl ?_) (by repeat first | exact sR | exact sN | apply sC | apply sS | apply sA) (fun x hx => ?_)
    · omega
    · rfl
    obtain ⟨i, v⟩ := x
    obtain ⟨hi, hv⟩ : (0 ≤ i ∧ i ≤ 4) ∧ (v = numB (xs.take i.toNat)) := hx
    show Sat _ _ [(7, true, U64 v), (26, true, subS u8E.size u p.toNat (p + 4).toNat), (27, true, I 4), (28, true, I i)] []
    refine seq ?_
    refine region ?_
    refine cons (opv (Ev.lss_i (.t rfl) (.t rfl)) ?_)
    refine nil ?_
    refine pN ?_
    refine seq ?_
    first | refine condD rfl (fun h1 => ?_) (fun h1 => ?_) | refine cond rfl (fun h1 => ?_) (fun h1 => ?_)
    · try simp only [Bool.and_eq_true, Bool.or_eq_true, Bool.or_eq_false_iff, Bool.and_eq_false_iff, Bool.not_eq_true', Bool.not_eq_false', decide_eq_true_eq, decide_eq_false_iff_not, Decidable.not_not] at h1
      refine skip ?_
      refine pN ?_
      refine seq ?_
      refine block ?_
      refine seq ?_
      refine region ?_
      refine cons (opv (Ev.indexAddr Try.underlying27 ty5 (.t rfl) (.t rfl) (fun w I => hs.keep0 I.keeps) (fun _ => by omega)) ?_)
      refine cons (opv (Ev.loadS0 ty5 (.t rfl) (fun w I => hs.keep0 I.keeps) (fun _ => by omega)) ?_)
      refine cons (opv (Ev.assign (.t rfl)) ?_)
      refine nil ?_
      refine pN ?_
      refine seq ?_
      refine region ?_
      refine cons (opv (Ev.move (.t rfl)) ?_)
      refine cons (opv (Ev.shl_u64 (.t rfl) (.c rfl) (fun _ => by decide)) ?_)
      refine cons (opv (Ev.assign (.t rfl)) ?_)
      refine nil ?_
      refine pN ?_
      refine region ?_
      refine cons (opv (Ev.move (.t rfl)) ?_)
      refine cons (opv (Ev.move (.t rfl)) ?_)
      refine cons (opv (Ev.conv_u8_u64 Try.underlying66 Try.underlying5 (.t rfl)) ?_)
      refine cons (opv (Ev.or_u64 (.t rfl) (.t rfl)) ?_)
      refine cons (opv (Ev.assign (.t rfl)) ?_)
      refine nil ?_
      refine bN ?_
      refine pN ?_
      refine region ?_
      refine cons (opv (Ev.add_i (.t rfl) (.c (v := I 1) rfl) (fun _ => by omega)) ?_)
      refine cons (opv (Ev.move (.t rfl)) ?_)
      refine nil ?_
      refine pN ?_
      refine next (X := Int × UInt64) (i + 1, _) ⟨?_, ?_⟩ ?_ (by repeat first | exact Sub.nil | refine Sub.cons rfl ?_) (by repeat first | exact sR | exact sN | apply sC | apply sS | apply sA)
      · try dsimp only
        omega
      · try dsimp only
        rw [numB_step xs i hi.1 (by omega), ← or_byte, ← hv]
        rfl
      · try dsimp only
        omega
    · try simp only [Bool.and_eq_true, Bool.or_eq_true, Bool.or_eq_false_iff, Bool.and_eq_false_iff, Bool.not_eq_true', Bool.not_eq_false', decide_eq_true_eq, decide_eq_false_iff_not, Decidable.not_not] at h1
      refine exit ?_
      refine pX ?_
      refine pX ?_
      refine bX ?_
      refine pN ?_
      refine seq ?_
      refine region ?_
      refine cons (opv (Ev.move (.t rfl)) ?_)
      refine cons (opv (Ev.conv_u64_u32 Try.underlying26 Try.underlying66 (.t rfl)) ?_)
      refine cons (opv (Ev.assign (.t rfl)) ?_)
      refine cons (opv (Ev.assign (.c (v := I 0) rfl)) ?_)
      refine nil ?_
      refine pN ?_
      refine ret ?_
      refine done rfl (.tmp rfl (.tmp rfl .nil)) (retE ?_)
      first
        | (have e : ¬ (0 ≤ p ∧ p + (4 : Nat) ≤ b.length) := by omega
           unfold takeB; rw [if_neg e]; rfl)
        | (have e : 0 ≤ p ∧ p + (4 : Nat) ≤ b.length := by omega
           have ei : i.toNat = 4 := by omega
           rw [ei, List.take_of_length_le (by omega)] at hv
           unfold takeB; rw [if_pos e]
           have hxs' : (b.take (p + (4 : Nat)).toNat).drop p.toNat = xs := hxs
           rw [hxs', ← hv]; rfl)

theorem number_ok (u : Value) (b : List UInt8) (w : World) (hb : IsSl u8E w u b) : Calls Try.prog 69 #[u] w (RetV w (U64 (numB b))) := by
  have hbl := hb.le
  refine enter0 20 Try.func69 rfl rfl (Nat.le_of_ble_eq_true rfl) ?_
  refine seq ?_
  refine region ?_
  refine cons (opv (Ev.assign (.c (v := U64 0) rfl)) ?_)
  refine nil ?_
  refine pN ?_
  refine seq ?_
  refine region ?_
  refine cons (opv (Ev.assign (.c (v := U64 0) rfl)) ?_)
  refine nil ?_
  refine pN ?_
  refine seq ?_
  refine seq ?_
  refine region ?_
  refine cons (opv (Ev.assign (.c (v := I 0) rfl)) ?_)
  refine nil ?_
  refine pN ?_
  refine block ?_
  refine loop (X := Int × UInt64) (fun x : Int × UInt64 => (0 ≤ x.1 ∧ x.1 ≤ b.length) ∧ (x.2 = numB (b.take x.1.toNat))) (fun x : Int × UInt64 => [(0, true, u), (3, true, U64 x.2), (4, true, I x.1)]) (fun x : Int × UInt64 => []) (fun x : Int × UInt64 => (b.length - x.1).toNat) (0, _) ⟨?_, ?_⟩ (by repeat first | exact Sub.nil | refine Sub.cons rfl ?_) (by repeat first | exact sR | exact sN | apply sC | apply sS | apply sA) (fun x hx => ?_)
  · omega
  · rfl
  obtain ⟨i, v⟩ := x
  obtain ⟨hi, hv⟩ : (0 ≤ i ∧ i ≤ b.length) ∧ (v = numB (b.take i.toNat)) := hx
  show Sat _ _ [(0, true, u), (3, true, U64 v), (4, true, I i)] []
  refine seq ?_
  refine seq ?_
  refine region ?_
  refine cons (opv (Ev.move (.t rfl)) ?_)
  refine cons (opv (Ev.move (.t rfl)) ?_)
  refine cons (opv (Ev.len Try.underlying27 (.t rfl) (by first | exact isSl_own (by repeat first | exact mH | apply mT | apply mA) | exact fun w I => IsSl.keep0 (by assumption) I.keeps)) ?_)
  refine cons (opv (Ev.lss_i (.t rfl) (.t rfl)) ?_)
  refine nil ?_
  refine pN ?_
  first | refine condD rfl (fun hlt => ?_) (fun hge => ?_) | refine cond rfl (fun hlt => ?_) (fun hge => ?_)
  · try simp only [Bool.and_eq_true, Bool.or_eq_true, Bool.or_eq_false_iff, Bool.and_eq_false_iff, Bool.not_eq_true', Bool.not_eq_false', decide_eq_true_eq, decide_eq_false_iff_not, Decidable.not_not] at hlt
    refine skip ?_
    refine pN ?_
    refine seq ?_
    refine block ?_
    refine region ?_
    refine cons (opv (Ev.move (.t rfl)) ?_)
    refine cons (opv (Ev.mul_u64 (.t rfl) (.c (v := U64 256) rfl)) ?_)
    refine cons (opv (Ev.move (.t rfl)) ?_)
    refine cons (opv (Ev.move (.t rfl)) ?_)
    refine cons (opv (Ev.indexAddr Try.underlying27 ty5 (.t rfl) (.t rfl) (by first | exact isSl_own (by repeat first | exact mH | apply mT | apply mA) | exact fun w I => IsSl.keep0 (by assumption) I.keeps) (fun _ => by omega)) ?_)
    refine cons (opv (Ev.loadS0 ty5 (.t rfl) (by first | exact isSl_own (by repeat first | exact mH | apply mT | apply mA) | exact fun w I => IsSl.keep0 (by assumption) I.keeps) (fun _ => by omega)) ?_)
    refine cons (opv (Ev.conv_u8_u64 Try.underlying66 Try.underlying5 (.t rfl)) ?_)
    refine cons (opv (Ev.add_u64 (.t rfl) (.t rfl)) ?_)
    refine cons (opv (Ev.assign (.t rfl)) ?_)
    refine nil ?_
    refine bN ?_
    refine pN ?_
    refine region ?_
    refine cons (opv (Ev.move (.t rfl)) ?_)
    refine cons (opv (Ev.add_i (.t rfl) (.c (v := I 1) rfl) (fun _ => by omega)) ?_)
    refine cons (opv (Ev.assign (.t rfl)) ?_)
    refine nil ?_
    refine pN ?_
    refine next (X := Int × UInt64) (i + 1, _) ⟨?_, ?_⟩ ?_ (by repeat first | exact Sub.nil | refine Sub.cons rfl ?_) (by repeat first | exact sR | exact sN | apply sC | apply sS | apply sA)
    · try dsimp only
      omega
    · try dsimp only
      rw [numB_step b i hi.1 (by omega), ← hv]
      rfl
    · try dsimp only
      omega
  · try simp only [Bool.and_eq_true, Bool.or_eq_true, Bool.or_eq_false_iff, Bool.and_eq_false_iff, Bool.not_eq_true', Bool.not_eq_false', decide_eq_true_eq, decide_eq_false_iff_not, Decidable.not_not] at hge
    refine exit ?_
    refine pX ?_
    refine pX ?_
    refine bX ?_
    refine pN ?_
    refine seq ?_
    refine region ?_
    refine cons (opv (Ev.move (.t rfl)) ?_)
    refine cons (opv (Ev.assign (.t rfl)) ?_)
    refine nil ?_
    refine pN ?_
    refine ret ?_
    refine done rfl (.tmp rfl .nil) (retE ?_)
    have ei : i.toNat = b.length := by omega
    rw [ei, List.take_length] at hv
    rw [hv]; rfl

/-- What is laid into the room behind bytes. -/
def marks : List UInt8 := (List.range 20).map fun i : Nat => UInt8.ofInt (200 + (i : Int))
theorem marks_length : marks.length = 20 := by decide
theorem marks_step (i : Int) (h0 : 0 ≤ i) (h1 : i < 20) : marks.take (i + 1).toNat = marks.take i.toNat ++ [UInt8.ofInt (200 + i)] := by
  rw [take_snoc marks i h0 (by rw [marks_length]; omega) 0]
  have hi : i.toNat < 20 := by omega
  have e : (i.toNat : Int) = i := by omega
  simp [marks, List.getD, hi, e]
theorem marks_get (i : Nat) (h : i < 20) : marks.getD i 0 = UInt8.ofInt (200 + (i : Int)) := by simp [marks, List.getD, h]
theorem full_lo {b : List UInt8} (i : Int) (h0 : 0 ≤ i) (h1 : i < b.length) : (b ++ marks).getD i.toNat 0 = b.getD i.toNat 0 := by
  have h : i.toNat < b.length := by omega
  simp [List.getD, List.getElem?_append, h]
theorem full_hi {b : List UInt8} (i : Int) (h0 : (b.length : Int) ≤ i) (h1 : i < b.length + 20) : (b ++ marks).getD i.toNat 0 = UInt8.ofInt (200 + i - b.length) := by
  have h : ¬ i.toNat < b.length := by omega
  have e := marks_get (i.toNat - b.length) (by omega)
  have e2 : (200 : Int) + ((i.toNat - b.length : Nat) : Int) = 200 + i - b.length := by omega
  rw [e2] at e
  rw [← e]
  simp [List.getD, List.getElem?_append, h]

theorem spare_ok (u : Value) (b : List UInt8) (w : World) (hb : IsSl u8E w u b) (hl : b.length ≤ 140737488351232) : Calls Try.prog 11 #[u] w (RetN w (fun _ : OV => True) (fun o => subS u8E.size o.v 0 b.length) (fun o => [OwnS o.v u8E (b ++ marks) 5])) := by
  have hbl := hb.le
  refine enter0 22 Try.func11 rfl rfl (Nat.le_of_ble_eq_true rfl) ?_
  refine seq ?_
  refine region ?_
  refine cons (opv (Ev.assign (.c (v := (Go.Value.slice none 0 0)) rfl)) ?_)
  refine nil ?_
  refine pN ?_
  refine seq ?_
  refine region ?_
  refine cons (opv (Ev.assign (.c (v := (Go.Value.slice none 0 0)) rfl)) ?_)
  refine takeNil u8E 5 ?_
  refine nil ?_
  refine pN ?_
  refine seq ?_
  refine region ?_
  refine cons (opv (Ev.move (.t rfl)) ?_)
  refine cons (opv (Ev.move (.t rfl)) ?_)
  refine cons (append (E := u8E) Try.underlying27 ty5 rfl zb5 zs5 (.t rfl) (.t rfl) (fun _ => by repeat first | exact Upd.head | apply Upd.tail | apply Upd.right) (by first | exact isSl_own (by repeat first | exact mH | apply mT | apply mA) | exact fun w I => IsSl.keep0 (by assumption) I.keeps) (⟨by (show _ ≤ 9223372036854775807); first | omega | (simp; done) | (simp; omega), by first | omega | (simp; done) | (simp; omega)⟩) (fun v1 => ?_))
  refine cons (opv (Ev.assign (.t rfl)) ?_)
  refine nil ?_
  refine pN ?_
  refine seq ?_
  refine seq ?_
  refine region ?_
  refine cons (opv (Ev.assign (.c (v := I 0) rfl)) ?_)
  refine nil ?_
  refine pN ?_
  refine block ?_
  refine loop (X := Int × OV × (List UInt8)) (fun x : Int × OV × (List UInt8) => (0 ≤ x.1 ∧ x.1 ≤ 20) ∧ (x.2.2 = b ++ marks.take x.1.toNat)) (fun x : Int × OV × (List UInt8) => [(0, true, u), (3, true, x.2.1.v), (4, true, I x.1)]) (fun x : Int × OV × (List UInt8) => [OwnS x.2.1.v u8E x.2.2 5]) (fun x : Int × OV × (List UInt8) => (20 - x.1).toNat) (0, _, _) ⟨?_, ?_⟩ (by repeat first | exact Sub.nil | refine Sub.cons rfl ?_) (by repeat first | exact sR | exact sN | apply sC | apply sS | apply sA) (fun x hx => ?_)
  · omega
  · simp
  obtain ⟨i, o, xs⟩ := x
  obtain ⟨hi, hx⟩ : (0 ≤ i ∧ i ≤ 20) ∧ (xs = b ++ marks.take i.toNat) := hx
  show Sat _ _ [(0, true, u), (3, true, o.v), (4, true, I i)] [OwnS o.v u8E xs 5]
  have hxl : xs.length ≤ b.length + 20 := by rw [hx]; simp [marks_length]; omega
  refine seq ?_
  refine seq ?_
  refine region ?_
  refine cons (opv (Ev.move (.t rfl)) ?_)
  refine cons (opv (Ev.lss_i (.t rfl) (.c (v := I 20) rfl)) ?_)
  refine nil ?_
  refine pN ?_
  first | refine condD rfl (fun h0 => ?_) (fun h0 => ?_) | refine cond rfl (fun h0 => ?_) (fun h0 => ?_)
  · try simp only [Bool.and_eq_true, Bool.or_eq_true, Bool.or_eq_false_iff, Bool.and_eq_false_iff, Bool.not_eq_true', Bool.not_eq_false', decide_eq_true_eq, decide_eq_false_iff_not, Decidable.not_not] at h0
    refine skip ?_
    refine pN ?_
    refine seq ?_
    refine block ?_
    refine region ?_
    refine cons (opv (Ev.move (.t rfl)) ?_)
    refine cons (opv (Ev.move (.t rfl)) ?_)
    refine cons (opv (Ev.add_i (.c (v := I 200) rfl) (.t rfl) (fun _ => by omega)) ?_)
    refine cons (opv (Ev.conv_i_u8 Try.underlying5 Try.underlying3 (.t rfl)) ?_)
    refine cons (buildSlice (E := u8E) Try.underlying27 ty5 z5 (.cons (.t rfl) .nil) rfl rfl (fun v2 => ?_))
    refine cons (append (E := u8E) Try.underlying27 ty5 rfl zb5 zs5 (.t rfl) (.t rfl) (fun _ => by repeat first | exact Upd.head | apply Upd.tail | apply Upd.right) (by first | exact isSl_own (by repeat first | exact mH | apply mT | apply mA) | exact fun w I => IsSl.keep0 (by assumption) I.keeps) (⟨by (show _ ≤ 9223372036854775807); first | omega | (simp; done) | (simp; omega), by first | omega | (simp; done) | (simp; omega)⟩) (fun v3 => ?_))
    refine cons (opv (Ev.assign (.t rfl)) ?_)
    refine nil ?_
    refine bN ?_
    refine pN ?_
    refine region ?_
    refine cons (opv (Ev.move (.t rfl)) ?_)
    refine cons (opv (Ev.add_i (.t rfl) (.c (v := I 1) rfl) (fun _ => by omega)) ?_)
    refine cons (opv (Ev.assign (.t rfl)) ?_)
    refine nil ?_
    refine pN ?_
    refine next (X := Int × OV × (List UInt8)) (i + 1, _, _) ⟨?_, ?_⟩ ?_ (by repeat first | exact Sub.nil | refine Sub.cons rfl ?_) (by repeat first | exact sR | exact sN | apply sC | apply sS | apply sA)
    · try dsimp only
      omega
    · try dsimp only
      rw [marks_step i hi.1 (by omega), hx, List.append_assoc]
    · try dsimp only
      omega
  · try simp only [Bool.and_eq_true, Bool.or_eq_true, Bool.or_eq_false_iff, Bool.and_eq_false_iff, Bool.not_eq_true', Bool.not_eq_false', decide_eq_true_eq, decide_eq_false_iff_not, Decidable.not_not] at h0
    refine exit ?_
    refine pX ?_
    refine pX ?_
    refine bX ?_
    refine pN ?_
    refine seq ?_
    refine region ?_
    have ei : i.toNat = 20 := by omega
    rw [ei, List.take_of_length_le (by rw [marks_length]; omega)] at hx
    refine cons (opv (Ev.move (.t rfl)) ?_)
    refine cons (opv (Ev.move (.t rfl)) ?_)
    refine cons (opv (Ev.len Try.underlying27 (.t rfl) (by first | exact isSl_own (by repeat first | exact mH | apply mT | apply mA) | exact fun w I => IsSl.keep0 (by assumption) I.keeps)) ?_)
    refine cons (opv (Ev.sliceH Try.underlying27 ty5 (.t rfl) (.t rfl) (by first | exact isSl_own (by repeat first | exact mH | apply mT | apply mA) | exact fun w I => IsSl.keep0 (by assumption) I.keeps) (fun _ => by rw [hx]; simp [marks_length]; omega)) ?_)
    refine cons (opv (Ev.assign (.t rfl)) ?_)
    refine nil ?_
    refine pN ?_
    refine ret ?_
    refine done rfl (.tmp rfl .nil) (fun w I => ?_)
    exact retN o trivial rfl (by rw [← hx]; exact List.Sublist.refl _) w I

theorem kept_ok (v u : Value) (b : List UInt8) (w : World) (hv : IsSl u8E w v (b ++ marks)) (hb : IsSl u8E w u b) (hl : b.length ≤ 140737488351232) : Calls Try.prog 15 #[subS u8E.size v 0 b.length, u] w (RetV w (.bool true)) := by
  have hbl := hb.le
  have hvl := hv.le
  have hfl : (b ++ marks).length = b.length + 20 := by simp [marks_length]
  have hf : IsSl u8E w (subS u8E.size v 0 ((b.length : Int) + 20).toNat) (b ++ marks) := by
    have e : ((b.length : Int) + 20).toNat = (b ++ marks).length := by rw [hfl]; omega
    rw [e]
    have := IsSl.head (xs := b ++ marks) (ys := []) (by simpa using hv)
    exact this
  refine enter0 52 Try.func15 rfl rfl (Nat.le_of_ble_eq_true rfl) ?_
  refine seq ?_
  refine region ?_
  refine cons (opv (Ev.assign (.c (v := .bool false) rfl)) ?_)
  refine nil ?_
  refine pN ?_
  refine seq ?_
  refine region ?_
  refine cons (opv (Ev.move (.t rfl)) ?_)
  refine cons (opv (Ev.move (.t rfl)) ?_)
  refine cons (opv (Ev.len Try.underlying27 (.t rfl) (by first | exact isSl_own (by repeat first | exact mH | apply mT | apply mA) | exact fun w I => IsSl.keep0 (by assumption) I.keeps)) ?_)
  refine cons (opv (Ev.add_i (.t rfl) (.c (v := I 20) rfl) (fun _ => by omega)) ?_)
  refine cons (opv (Ev.sliceUp Try.underlying27 ty5 (.t rfl) (.t rfl) (fun w I => hv.keep0 I.keeps) (fun _ => by rw [hfl]; omega)) ?_)
  refine cons (opv (Ev.assign (.t rfl)) ?_)
  refine nil ?_
  refine pN ?_
  refine seq ?_
  refine seq ?_
  refine region ?_
  refine cons (opv (Ev.assign (.c (v := I 0) rfl)) ?_)
  refine nil ?_
  refine pN ?_
  refine block ?_
  refine loop (X := Int) (fun x : Int => (0 ≤ x ∧ x ≤ b.length + 20)) (fun x : Int => [(1, true, u), (5, true, subS u8E.size v 0 ((b.length : Int) + 20).toNat), (6, true, I x)]) (fun x : Int => []) (fun x : Int => (b.length + 20 - x).toNat) (0) ?_ (by repeat first | exact Sub.nil | refine Sub.cons rfl ?_) (by repeat first | exact sR | exact sN | apply sC | apply sS | apply sA) (fun x hx => ?_)
  · omega
  obtain ⟨i, rfl⟩ : ∃ y, y = x := ⟨x, rfl⟩
  have hi : 0 ≤ i ∧ i ≤ b.length + 20 := hx
  clear hx
  show Sat _ _ [(1, true, u), (5, true, subS u8E.size v 0 ((b.length : Int) + 20).toNat), (6, true, I i)] []
  refine seq ?_
  refine seq ?_
  refine region ?_
  refine cons (opv (Ev.move (.t rfl)) ?_)
  refine cons (opv (Ev.move (.t rfl)) ?_)
  refine cons (opv (Ev.len Try.underlying27 (.t rfl) (fun w I => hf.keep0 I.keeps)) ?_)
  refine cons (opv (Ev.lss_i (.t rfl) (.t rfl)) ?_)
  refine nil ?_
  refine pN ?_
  first | refine condD rfl (fun hlt => ?_) (fun hge => ?_) | refine cond rfl (fun hlt => ?_) (fun hge => ?_)
  · try simp only [Bool.and_eq_true, Bool.or_eq_true, Bool.or_eq_false_iff, Bool.and_eq_false_iff, Bool.not_eq_true', Bool.not_eq_false', decide_eq_true_eq, decide_eq_false_iff_not, Decidable.not_not] at hlt
    refine skip ?_
    refine pN ?_
    refine seq ?_
    refine block ?_
    refine seq ?_
    refine draw' (by kernel_rfl) ?_
    refine take 0 rfl (by kernel_rfl) (by kernel_rfl) (by kernel_rfl) (by repeat first | exact sR | exact sN | apply sC | apply sS | apply sA) (Ev.move (.t rfl)) ?_
    refine take 1 rfl (by kernel_rfl) (by kernel_rfl) (by kernel_rfl) (by repeat first | exact sR | exact sN | apply sC | apply sS | apply sA) (Ev.move (.t rfl)) ?_
    refine take 2 rfl (by kernel_rfl) (by kernel_rfl) (by kernel_rfl) (by repeat first | exact sR | exact sN | apply sC | apply sS | apply sA) (Ev.len Try.underlying27 (.t rfl) (by first | exact isSl_own (by repeat first | exact mH | apply mT | apply mA) | exact fun w I => IsSl.keep0 (by assumption) I.keeps)) ?_
    refine take 3 rfl (by kernel_rfl) (by kernel_rfl) (by kernel_rfl) (by repeat first | exact sR | exact sN | apply sC | apply sS | apply sA) (Ev.lss_i (.t rfl) (.t rfl)) ?_
    refine take 4 rfl (by kernel_rfl) (by kernel_rfl) (by kernel_rfl) (by repeat first | exact sR | exact sN | apply sC | apply sS | apply sA) (Ev.move (.t rfl)) ?_
    refine takeg 5 rfl (by kernel_rfl) (by kernel_rfl) (by kernel_rfl) (by repeat first | exact sR | exact sN | apply sC | apply sS | apply sA) rfl rfl (Ev.move (.t rfl)) ?_
    refine takeg 6 rfl (by kernel_rfl) (by kernel_rfl) (by kernel_rfl) (by repeat first | exact sR | exact sN | apply sC | apply sS | apply sA) rfl rfl (Ev.move (.t rfl)) ?_
    refine takeg 7 rfl (by kernel_rfl) (by kernel_rfl) (by kernel_rfl) (by repeat first | exact sR | exact sN | apply sC | apply sS | apply sA) rfl rfl (Ev.indexAddr Try.underlying27 ty5 (.g rfl id) (.g rfl id) (fun w I => hf.keep0 I.keeps) (fun _ => by rename_i hg; rw [hfl] at hlt ⊢; omega)) ?_
    refine takeg 8 rfl (by kernel_rfl) (by kernel_rfl) (by kernel_rfl) (by repeat first | exact sR | exact sN | apply sC | apply sS | apply sA) rfl rfl (Ev.loadS0 ty5 (.g rfl id) (fun w I => hf.keep0 I.keeps) (fun _ => by rename_i hg; rw [hfl] at hlt ⊢; omega)) ?_
    refine takeg 9 rfl (by kernel_rfl) (by kernel_rfl) (by kernel_rfl) (by repeat first | exact sR | exact sN | apply sC | apply sS | apply sA) rfl rfl (Ev.move (.t rfl)) ?_
    refine takeg 10 rfl (by kernel_rfl) (by kernel_rfl) (by kernel_rfl) (by repeat first | exact sR | exact sN | apply sC | apply sS | apply sA) rfl rfl (Ev.move (.t rfl)) ?_
    refine takeg 11 rfl (by kernel_rfl) (by kernel_rfl) (by kernel_rfl) (by repeat first | exact sR | exact sN | apply sC | apply sS | apply sA) rfl rfl (Ev.indexAddr Try.underlying27 ty5 (.g rfl id) (.g rfl id) (by first | exact isSl_own (by repeat first | exact mH | apply mT | apply mA) | exact fun w I => IsSl.keep0 (by assumption) I.keeps) (fun _ => by rename_i hg; simp at hg; omega)) ?_
    refine takeg 12 rfl (by kernel_rfl) (by kernel_rfl) (by kernel_rfl) (by repeat first | exact sR | exact sN | apply sC | apply sS | apply sA) rfl rfl (Ev.loadS0 ty5 (.g rfl id) (by first | exact isSl_own (by repeat first | exact mH | apply mT | apply mA) | exact fun w I => IsSl.keep0 (by assumption) I.keeps) (fun _ => by rename_i hg; simp at hg; omega)) ?_
    refine takeg 13 rfl (by kernel_rfl) (by kernel_rfl) (by kernel_rfl) (by repeat first | exact sR | exact sN | apply sC | apply sS | apply sA) rfl rfl (Ev.neq_u8 (.g rfl id) (.g rfl id)) ?_
    refine take 14 rfl (by kernel_rfl) (by kernel_rfl) (by kernel_rfl) (by repeat first | exact sR | exact sN | apply sC | apply sS | apply sA) (Ev.pickA (.t rfl) (fun {_} h => by cases h; rfl) ⟨_, rfl⟩ (by intro h1 h; first | (rw [h] <;> rfl) | (rw [h1, h] <;> rfl) | (rw [h, h1] <;> rfl) | simp_all) (.c (v := .bool false) rfl)) ?_
    refine take 15 rfl (by kernel_rfl) (by kernel_rfl) (by kernel_rfl) (by repeat first | exact sR | exact sN | apply sC | apply sS | apply sA) (Ev.move (.t rfl)) ?_
    refine takeg 16 rfl (by kernel_rfl) (by kernel_rfl) (by kernel_rfl) (by repeat first | exact sR | exact sN | apply sC | apply sS | apply sA) rfl rfl (Ev.move (.t rfl)) ?_
    refine takeg 17 rfl (by kernel_rfl) (by kernel_rfl) (by kernel_rfl) (by repeat first | exact sR | exact sN | apply sC | apply sS | apply sA) rfl rfl (Ev.move (.t rfl)) ?_
    refine takeg 18 rfl (by kernel_rfl) (by kernel_rfl) (by kernel_rfl) (by repeat first | exact sR | exact sN | apply sC | apply sS | apply sA) rfl rfl (Ev.len Try.underlying27 (.g rfl id) (by first | exact isSl_own (by repeat first | exact mH | apply mT | apply mA) | exact fun w I => IsSl.keep0 (by assumption) I.keeps)) ?_
    refine takeg 19 rfl (by kernel_rfl) (by kernel_rfl) (by kernel_rfl) (by repeat first | exact sR | exact sN | apply sC | apply sS | apply sA) rfl rfl (Ev.geq_i (.g rfl id) (.g rfl id)) ?_
    refine takeg 20 rfl (by kernel_rfl) (by kernel_rfl) (by kernel_rfl) (by repeat first | exact sR | exact sN | apply sC | apply sS | apply sA) rfl rfl (Ev.move (.g rfl id)) ?_
    refine takeg 21 rfl (by kernel_rfl) (by kernel_rfl) (by kernel_rfl) (by repeat first | exact sR | exact sN | apply sC | apply sS | apply sA) rfl rfl (Ev.move (.t rfl)) ?_
    refine takeg 22 rfl (by kernel_rfl) (by kernel_rfl) (by kernel_rfl) (by repeat first | exact sR | exact sN | apply sC | apply sS | apply sA) rfl rfl (Ev.move (.t rfl)) ?_
    refine takeg 23 rfl (by kernel_rfl) (by kernel_rfl) (by kernel_rfl) (by repeat first | exact sR | exact sN | apply sC | apply sS | apply sA) rfl rfl (Ev.indexAddr Try.underlying27 ty5 (.g rfl id) (.g rfl id) (fun w I => hf.keep0 I.keeps) (fun _ => by rename_i hg; rw [hfl] at hlt ⊢; omega)) ?_
    refine takeg 24 rfl (by kernel_rfl) (by kernel_rfl) (by kernel_rfl) (by repeat first | exact sR | exact sN | apply sC | apply sS | apply sA) rfl rfl (Ev.loadS0 ty5 (.g rfl id) (fun w I => hf.keep0 I.keeps) (fun _ => by rename_i hg; rw [hfl] at hlt ⊢; omega)) ?_
    refine takeg 25 rfl (by kernel_rfl) (by kernel_rfl) (by kernel_rfl) (by repeat first | exact sR | exact sN | apply sC | apply sS | apply sA) rfl rfl (Ev.move (.t rfl)) ?_
    refine takeg 26 rfl (by kernel_rfl) (by kernel_rfl) (by kernel_rfl) (by repeat first | exact sR | exact sN | apply sC | apply sS | apply sA) rfl rfl (Ev.add_i (.c (v := I 200) rfl) (.g rfl id) (fun _ => by first | omega | (rename_i hg; simp at hg; omega))) ?_
    refine takeg 27 rfl (by kernel_rfl) (by kernel_rfl) (by kernel_rfl) (by repeat first | exact sR | exact sN | apply sC | apply sS | apply sA) rfl rfl (Ev.move (.t rfl)) ?_
    refine takeg 28 rfl (by kernel_rfl) (by kernel_rfl) (by kernel_rfl) (by repeat first | exact sR | exact sN | apply sC | apply sS | apply sA) rfl rfl (Ev.len Try.underlying27 (.g rfl id) (by first | exact isSl_own (by repeat first | exact mH | apply mT | apply mA) | exact fun w I => IsSl.keep0 (by assumption) I.keeps)) ?_
    refine takeg 29 rfl (by kernel_rfl) (by kernel_rfl) (by kernel_rfl) (by repeat first | exact sR | exact sN | apply sC | apply sS | apply sA) rfl rfl (Ev.sub_i (.g rfl id) (.g rfl id) (fun _ => by first | omega | (rename_i hg; simp at hg; omega))) ?_
    refine takeg 30 rfl (by kernel_rfl) (by kernel_rfl) (by kernel_rfl) (by repeat first | exact sR | exact sN | apply sC | apply sS | apply sA) rfl rfl (Ev.conv_i_u8 Try.underlying5 Try.underlying3 (.g rfl id)) ?_
    refine takeg 31 rfl (by kernel_rfl) (by kernel_rfl) (by kernel_rfl) (by repeat first | exact sR | exact sN | apply sC | apply sS | apply sA) rfl rfl (Ev.neq_u8 (.g rfl id) (.g rfl id)) ?_
    refine takeg 32 rfl (by kernel_rfl) (by kernel_rfl) (by kernel_rfl) (by repeat first | exact sR | exact sN | apply sC | apply sS | apply sA) rfl rfl (Ev.pickA (.g rfl id) (fun {_} h => by cases h; rfl) ⟨_, rfl⟩ (by intro h1 h; first | (rw [h] <;> rfl) | (rw [h1, h] <;> rfl) | (rw [h, h1] <;> rfl) | simp_all) (.c (v := .bool false) rfl)) ?_
    refine take 33 rfl (by kernel_rfl) (by kernel_rfl) (by kernel_rfl) (by repeat first | exact sR | exact sN | apply sC | apply sS | apply sA) (Ev.pickO (.t rfl) (.c (v := .bool true) rfl) (fun {_} h => by cases h; rfl) ⟨_, rfl⟩ (by intro h1 h; first | (rw [h] <;> rfl) | (rw [h1, h] <;> rfl) | (rw [h, h1] <;> rfl) | simp_all)) ?_
    refine over (by kernel_rfl) ?_
    refine pN ?_
    first | refine condD rfl (fun h1 => ?_) (fun h1 => ?_) | refine cond rfl (fun h1 => ?_) (fun h1 => ?_)
    · exfalso
      have f1 := full_lo (b := b) i hi.1
      have f2 := full_hi (b := b) i
      rw [hfl] at hlt
      have hlt2 : i < b.length + 20 := by omega
      by_cases hc : i < b.length
      · simp_all
      · have hc2 : (b.length : Int) ≤ i := by omega
        simp_all
    · refine skip ?_
      refine bN ?_
      refine pN ?_
      refine region ?_
      refine cons (opv (Ev.move (.t rfl)) ?_)
      refine cons (opv (Ev.add_i (.t rfl) (.c (v := I 1) rfl) (fun _ => by omega)) ?_)
      refine cons (opv (Ev.assign (.t rfl)) ?_)
      refine nil ?_
      refine pN ?_
      refine next (X := Int) (i + 1) ?_ ?_ (by repeat first | exact Sub.nil | refine Sub.cons rfl ?_) (by repeat first | exact sR | exact sN | apply sC | apply sS | apply sA)
      · try dsimp only
        omega
      · try dsimp only
        omega
  · try simp only [Bool.and_eq_true, Bool.or_eq_true, Bool.or_eq_false_iff, Bool.and_eq_false_iff, Bool.not_eq_true', Bool.not_eq_false', decide_eq_true_eq, decide_eq_false_iff_not, Decidable.not_not] at hge
    refine exit ?_
    refine pX ?_
    refine pX ?_
    refine bX ?_
    refine pN ?_
    refine seq ?_
    refine region ?_
    refine cons (opv (Ev.assign (.c (v := .bool true) rfl)) ?_)
    refine nil ?_
    refine pN ?_
    refine ret ?_
    refine done rfl (.tmp rfl .nil) (retE ?_)
    rfl

/-- What is above 16 bits added to the lowest 16, to the end. -/
def foldN (m : Nat) : Nat := if m = 0 then 0 else (m - 1) % 65535 + 1
theorem foldN_step (m : Nat) : foldN (m / 65536 + m % 65536) = foldN m := by
  unfold foldN
  by_cases h : m = 0
  · subst h; rfl
  · have h1 : m / 65536 + m % 65536 ≠ 0 := by omega
    rw [if_neg h, if_neg h1]
    omega
theorem foldN_small {m : Nat} (h : m ≤ 65535) : foldN m = m := by
  unfold foldN
  split <;> omega
theorem foldN_le (m : Nat) : foldN m ≤ 65535 := by
  unfold foldN
  split <;> omega
def sh : Bool → Nat
  | true => 8
  | false => 0
/-- The sum of numbers of 16 bits; the flag: the next byte is a higher one. -/
def sumGo : Bool → List UInt8 → UInt64 → UInt64
  | _, [], n => n
  | p, x :: l, n => sumGo (!p) l (n + shl64 x.toUInt64 (sh p))
theorem sumGo_step (p : Bool) (xs r : List UInt8) (j : Nat) (n : UInt64) (hj : j < xs.length) : sumGo (!p) (xs.drop (j + 1) ++ r) (n + shl64 (xs.getD j 0).toUInt64 (sh p)) = sumGo p (xs.drop j ++ r) n := by
  rw [List.drop_eq_getElem_cons hj]
  have e : xs.getD j 0 = xs[j] := by simp [List.getD, hj]
  rw [e]
  rfl
/-- The internet checksum. -/
def sumB (l : List UInt8) : UInt16 := UInt16.ofNat (65535 - foldN (sumGo true l 0).toNat)
def updB (s o n : UInt16) : UInt16 := UInt16.ofNat (65535 - foldN (65535 - s.toNat + (65535 - o.toNat) + n.toNat))
theorem compl_fold (m : Nat) : ~~~ (UInt16.ofNat (foldN m)) = UInt16.ofNat (65535 - foldN m) := by
  have h := foldN_le m
  apply UInt16.toNat_inj.1
  rw [UInt16.toNat_not, UInt16.toNat_ofNat', UInt16.toNat_ofNat']
  simp only [UInt16.size]
  omega
theorem sub_fold (m : Nat) : ((65535 : UInt64) - UInt64.ofNat (foldN m)).toUInt16 = UInt16.ofNat (65535 - foldN m) := by
  have h := foldN_le m
  apply UInt16.toNat_inj.1
  rw [UInt64.toNat_toUInt16, UInt64.toNat_sub, UInt64.toNat_ofNat', UInt16.toNat_ofNat']
  have e : UInt64.toNat 65535 = 65535 := rfl
  rw [e]
  omega

theorem rfold_ok (m : UInt64) (w : World) : Calls Try.prog 60 #[U64 m] w (RetV w (U64 (UInt64.ofNat (foldN m.toNat)))) := by
  refine enter0 11 Try.func60 rfl rfl (Nat.le_of_ble_eq_true rfl) ?_
  refine seq ?_
  refine region ?_
  refine cons (opv (Ev.assign (.c (v := U64 0) rfl)) ?_)
  refine nil ?_
  refine pN ?_
  refine seq ?_
  refine block ?_
  refine loop (X := UInt64) (fun x : UInt64 => (foldN x.toNat = foldN m.toNat)) (fun x : UInt64 => [(0, true, U64 x)]) (fun x : UInt64 => []) (fun x : UInt64 => x.toNat) (_) ?_ (by repeat first | exact Sub.nil | refine Sub.cons rfl ?_) (by repeat first | exact sR | exact sN | apply sC | apply sS | apply sA) (fun x hx => ?_)
  · rfl
  obtain ⟨n, rfl⟩ : ∃ y, y = x := ⟨x, rfl⟩
  have hn : foldN n.toNat = foldN m.toNat := hx
  clear hx
  show Sat _ _ [(0, true, U64 n)] []
  refine seq ?_
  refine seq ?_
  refine region ?_
  refine cons (opv (Ev.move (.t rfl)) ?_)
  refine cons (opv (Ev.gtr_u64 (.t rfl) (.c (v := U64 65535) rfl)) ?_)
  refine nil ?_
  refine pN ?_
  first | refine condD rfl (fun hgt => ?_) (fun hle => ?_) | refine cond rfl (fun hgt => ?_) (fun hle => ?_)
  · try simp only [Bool.and_eq_true, Bool.or_eq_true, Bool.or_eq_false_iff, Bool.and_eq_false_iff, Bool.not_eq_true', Bool.not_eq_false', decide_eq_true_eq, decide_eq_false_iff_not, Decidable.not_not] at hgt
    have hg2 : 65535 < n.toNat := by simpa [UInt64.lt_iff_toNat_lt] using hgt
    have hnl := n.toNat_lt
    have hstep : (n / 65536 + n % 65536).toNat = n.toNat / 65536 + n.toNat % 65536 := by
      rw [UInt64.toNat_add, UInt64.toNat_div, UInt64.toNat_mod]
      have e : UInt64.toNat 65536 = 65536 := rfl
      rw [e]; omega
    refine skip ?_
    refine pN ?_
    refine block ?_
    refine region ?_
    refine cons (opv (Ev.move (.t rfl)) ?_)
    refine cons (opv (Ev.quo_u64 (.t rfl) (.c (v := U64 65536) rfl) (fun _ => by decide)) ?_)
    refine cons (opv (Ev.move (.t rfl)) ?_)
    refine cons (opv (Ev.rem_u64 (.t rfl) (.c (v := U64 65536) rfl) (fun _ => by decide)) ?_)
    refine cons (opv (Ev.add_u64 (.t rfl) (.t rfl)) ?_)
    refine cons (opv (Ev.assign (.t rfl)) ?_)
    refine nil ?_
    refine bN ?_
    refine pN ?_
    refine next (X := UInt64) (_) ?_ ?_ (by repeat first | exact Sub.nil | refine Sub.cons rfl ?_) (by repeat first | exact sR | exact sN | apply sC | apply sS | apply sA)
    · try dsimp only
      rw [← hn, ← foldN_step n.toNat, hstep]
    · try dsimp only
      rw [hstep]; omega
  · try simp only [Bool.and_eq_true, Bool.or_eq_true, Bool.or_eq_false_iff, Bool.and_eq_false_iff, Bool.not_eq_true', Bool.not_eq_false', decide_eq_true_eq, decide_eq_false_iff_not, Decidable.not_not] at hle
    refine exit ?_
    refine pX ?_
    refine pX ?_
    refine bX ?_
    refine pN ?_
    refine seq ?_
    refine region ?_
    refine cons (opv (Ev.move (.t rfl)) ?_)
    refine cons (opv (Ev.assign (.t rfl)) ?_)
    refine nil ?_
    refine pN ?_
    refine ret ?_
    refine done rfl (.tmp rfl .nil) (retE ?_)
    have hl : n.toNat ≤ 65535 := by
      have : ¬ 65535 < n.toNat := by simpa [UInt64.lt_iff_toNat_lt] using hle
      omega
    rw [← hn, foldN_small hl, UInt64.ofNat_toNat]; rfl

theorem ofold_ok (m : UInt64) (w : World) : Calls Try.prog 67 #[U64 m] w (RetV w (U16 (UInt16.ofNat (foldN m.toNat)))) := by
  refine enter0 13 Try.func67 rfl rfl (Nat.le_of_ble_eq_true rfl) ?_
  refine seq ?_
  refine region ?_
  refine cons (opv (Ev.assign (.c (v := U16 0) rfl)) ?_)
  refine nil ?_
  refine pN ?_
  refine seq ?_
  refine block ?_
  refine loop (X := UInt64) (fun x : UInt64 => (foldN x.toNat = foldN m.toNat)) (fun x : UInt64 => [(0, true, U64 x)]) (fun x : UInt64 => []) (fun x : UInt64 => x.toNat) (_) ?_ (by repeat first | exact Sub.nil | refine Sub.cons rfl ?_) (by repeat first | exact sR | exact sN | apply sC | apply sS | apply sA) (fun x hx => ?_)
  · rfl
  obtain ⟨n, rfl⟩ : ∃ y, y = x := ⟨x, rfl⟩
  have hn : foldN n.toNat = foldN m.toNat := hx
  clear hx
  show Sat _ _ [(0, true, U64 n)] []
  refine seq ?_
  refine seq ?_
  refine region ?_
  refine cons (opv (Ev.move (.t rfl)) ?_)
  refine cons (opv (Ev.shr_u64 (.t rfl) (.c rfl) (fun _ => by decide)) ?_)
  refine cons (opv (Ev.gtr_u64 (.t rfl) (.c (v := U64 0) rfl)) ?_)
  refine nil ?_
  refine pN ?_
  first | refine condD rfl (fun hgt => ?_) (fun hle => ?_) | refine cond rfl (fun hgt => ?_) (fun hle => ?_)
  · try simp only [Bool.and_eq_true, Bool.or_eq_true, Bool.or_eq_false_iff, Bool.and_eq_false_iff, Bool.not_eq_true', Bool.not_eq_false', decide_eq_true_eq, decide_eq_false_iff_not, Decidable.not_not] at hgt
    have hg2 : 0 < n.toNat / 2 ^ 16 := by simpa [UInt64.lt_iff_toNat_lt, toNat_shr64] using hgt
    have hnl := n.toNat_lt
    have hstep : (shr64 n 16 + (n &&& 65535)).toNat = n.toNat / 65536 + n.toNat % 65536 := by
      rw [UInt64.toNat_add, toNat_shr64, UInt64.toNat_and]
      have e : UInt64.toNat 65535 = 2 ^ 16 - 1 := rfl
      rw [e, Nat.and_two_pow_sub_one_eq_mod]; omega
    refine skip ?_
    refine pN ?_
    refine block ?_
    refine region ?_
    refine cons (opv (Ev.move (.t rfl)) ?_)
    refine cons (opv (Ev.shr_u64 (.t rfl) (.c rfl) (fun _ => by decide)) ?_)
    refine cons (opv (Ev.move (.t rfl)) ?_)
    refine cons (opv (Ev.and_u64 (.t rfl) (.c (v := U64 65535) rfl)) ?_)
    refine cons (opv (Ev.add_u64 (.t rfl) (.t rfl)) ?_)
    refine cons (opv (Ev.assign (.t rfl)) ?_)
    refine nil ?_
    refine bN ?_
    refine pN ?_
    refine next (X := UInt64) (_) ?_ ?_ (by repeat first | exact Sub.nil | refine Sub.cons rfl ?_) (by repeat first | exact sR | exact sN | apply sC | apply sS | apply sA)
    · try dsimp only
      rw [← hn, ← foldN_step n.toNat, ← hstep]; rfl
    · try dsimp only
      have hm : (shr64 n (Int.toNat 16) + (n &&& 65535)).toNat = n.toNat / 65536 + n.toNat % 65536 := hstep
      rw [hm]; omega
  · try simp only [Bool.and_eq_true, Bool.or_eq_true, Bool.or_eq_false_iff, Bool.and_eq_false_iff, Bool.not_eq_true', Bool.not_eq_false', decide_eq_true_eq, decide_eq_false_iff_not, Decidable.not_not] at hle
    refine exit ?_
    refine pX ?_
    refine pX ?_
    refine bX ?_
    refine pN ?_
    refine seq ?_
    refine region ?_
    refine cons (opv (Ev.move (.t rfl)) ?_)
    refine cons (opv (Ev.conv_u64_u16 Try.underlying25 Try.underlying66 (.t rfl)) ?_)
    refine cons (opv (Ev.assign (.t rfl)) ?_)
    refine nil ?_
    refine pN ?_
    refine ret ?_
    refine done rfl (.tmp rfl .nil) (retE ?_)
    have hl : n.toNat ≤ 65535 := by
      have : ¬ 0 < n.toNat / 2 ^ 16 := by simpa [UInt64.lt_iff_toNat_lt, toNat_shr64] using hle
      omega
    rw [← hn, foldN_small hl]
    have e : n.toUInt16 = UInt16.ofNat n.toNat := by
      apply UInt16.toNat_inj.1
      rw [UInt64.toNat_toUInt16, UInt16.toNat_ofNat']
    rw [← e]; rfl

theorem ty27 : TyOK Try.prog 27 (ovE nilSl) := TyOK.mk' (by kernel_rfl) (by kernel_rfl)

theorem en67 : Enters Try.prog 67 := Enters.mk' (by kernel_rfl)

theorem sum_ok (u : Value) (xss : List (List UInt8)) (w : World) (hs : IsSS u8E w u xss) : Calls Try.prog 55 #[u] w (RetV w (U16 (sumB xss.flatten))) := by
  obtain ⟨vs, hvs, hvl, he⟩ := hs
  have hvle := hvs.le
  refine enter0 34 Try.func55 rfl rfl (Nat.le_of_ble_eq_true rfl) ?_
  refine seq ?_
  refine region ?_
  refine cons (opv (Ev.assign (.c (v := U16 0) rfl)) ?_)
  refine nil ?_
  refine pN ?_
  refine seq ?_
  refine region ?_
  refine cons (opv (Ev.assign (.c (v := U64 0) rfl)) ?_)
  refine nil ?_
  refine pN ?_
  refine seq ?_
  refine region ?_
  refine cons (opv (Ev.assign (.c (v := I 8) rfl)) ?_)
  refine nil ?_
  refine pN ?_
  refine seq ?_
  refine seq ?_
  refine region ?_
  refine cons (opv (Ev.move (.t rfl)) ?_)
  refine cons (opv (Ev.len Try.underlying79 (.t rfl) (by first | exact isSl_own (by repeat first | exact mH | apply mT | apply mA) | exact fun w I => IsSl.keep0 (by assumption) I.keeps)) ?_)
  refine cons (opv (Ev.move (.c (v := I 0) rfl)) ?_)
  refine nil ?_
  refine pN ?_
  refine block ?_
  refine loop (X := Int × UInt64 × Bool) (fun x : Int × UInt64 × Bool => (0 ≤ x.1 ∧ x.1 ≤ xss.length) ∧ (sumGo x.2.2 (xss.drop x.1.toNat).flatten x.2.1 = sumGo true xss.flatten 0)) (fun x : Int × UInt64 × Bool => [(3, true, U64 x.2.1), (4, true, I (sh x.2.2)), (9, true, u), (10, true, I vs.length), (11, true, I x.1)]) (fun x : Int × UInt64 × Bool => []) (fun x : Int × UInt64 × Bool => (xss.length - x.1).toNat) (0, _, true) ⟨?_, ?_⟩ (by repeat first | exact Sub.nil | refine Sub.cons rfl ?_) (by repeat first | exact sR | exact sN | apply sC | apply sS | apply sA) (fun x hx => ?_)
  · omega
  · rfl
  obtain ⟨i, h, p⟩ := x
  obtain ⟨hi, hh⟩ : (0 ≤ i ∧ i ≤ xss.length) ∧ (sumGo p (xss.drop i.toNat).flatten h = sumGo true xss.flatten 0) := hx
  show Sat _ _ [(3, true, U64 h), (4, true, I (sh p)), (9, true, u), (10, true, I vs.length), (11, true, I i)] []
  refine seq ?_
  refine region ?_
  refine cons (opv (Ev.lss_i (.t rfl) (.t rfl)) ?_)
  refine nil ?_
  refine pN ?_
  refine seq ?_
  first | refine condD rfl (fun hlt => ?_) (fun hge => ?_) | refine cond rfl (fun hlt => ?_) (fun hge => ?_)
  · try simp only [Bool.and_eq_true, Bool.or_eq_true, Bool.or_eq_false_iff, Bool.and_eq_false_iff, Bool.not_eq_true', Bool.not_eq_false', decide_eq_true_eq, decide_eq_false_iff_not, Decidable.not_not] at hlt
    refine skip ?_
    refine pN ?_
    refine seq ?_
    refine block ?_
    refine seq ?_
    refine region ?_
    refine cons (opv (Ev.indexAddr Try.underlying79 ty27 (.t rfl) (.t rfl) (by first | exact isSl_own (by repeat first | exact mH | apply mT | apply mA) | exact fun w I => IsSl.keep0 (by assumption) I.keeps) (fun _ => by omega)) ?_)
    refine cons (opv (Ev.loadS0 ty27 (.t rfl) (by first | exact isSl_own (by repeat first | exact mH | apply mT | apply mA) | exact fun w I => IsSl.keep0 (by assumption) I.keeps) (fun _ => by omega)) ?_)
    refine cons (opv (Ev.assign (.t rfl)) ?_)
    refine nil ?_
    refine pN ?_
    refine seq ?_
    refine region ?_
    have hd : xss.drop i.toNat = xss.getD i.toNat [] :: xss.drop (i + 1).toNat := by
      have e : (i + 1).toNat = i.toNat + 1 := by omega
      rw [e, List.drop_eq_getElem_cons (by omega)]; simp [List.getD, show i.toNat < xss.length by omega]
    rw [hd, List.flatten_cons] at hh
    have hx := he i.toNat (by omega)
    have hxl := hx.le
    generalize xss.getD i.toNat [] = xs at hh hx hxl
    change IsSl u8E w (vs.getD i.toNat nilSl).v xs at hx
    refine cons (opv (Ev.move (.t rfl)) ?_)
    refine cons (opv (Ev.len Try.underlying27 (.t rfl) (by first | exact isSl_own (by repeat first | exact mH | apply mT | apply mA) | exact fun w I => IsSl.keep0 (by assumption) I.keeps)) ?_)
    refine cons (opv (Ev.move (.c (v := I 0) rfl)) ?_)
    refine nil ?_
    refine pN ?_
    refine block ?_
    refine loop (X := Int × UInt64 × Bool) (fun x : Int × UInt64 × Bool => (0 ≤ x.1 ∧ x.1 ≤ xs.length) ∧ (sumGo x.2.2 (xs.drop x.1.toNat ++ (xss.drop (i + 1).toNat).flatten) x.2.1 = sumGo p (xs ++ (xss.drop (i + 1).toNat).flatten) h)) (fun x : Int × UInt64 × Bool => [(3, true, U64 x.2.1), (4, true, I (sh x.2.2)), (9, true, u), (10, true, I vs.length), (11, true, I i), (15, true, (vs.getD i.toNat nilSl).v), (16, true, I xs.length), (17, true, I x.1)]) (fun x : Int × UInt64 × Bool => []) (fun x : Int × UInt64 × Bool => (xs.length - x.1).toNat) (0, _, _) ⟨?_, ?_⟩ (by repeat first | exact Sub.nil | refine Sub.cons rfl ?_) (by repeat first | exact sR | exact sN | apply sC | apply sS | apply sA) (fun x hx => ?_)
    · omega
    · rfl
    obtain ⟨j, g, q⟩ := x
    obtain ⟨hj, hg⟩ : (0 ≤ j ∧ j ≤ xs.length) ∧ (sumGo q (xs.drop j.toNat ++ (xss.drop (i + 1).toNat).flatten) g = sumGo p (xs ++ (xss.drop (i + 1).toNat).flatten) h) := hx
    show Sat _ _ [(3, true, U64 g), (4, true, I (sh q)), (9, true, u), (10, true, I vs.length), (11, true, I i), (15, true, (vs.getD i.toNat nilSl).v), (16, true, I xs.length), (17, true, I j)] []
    refine seq ?_
    refine region ?_
    refine cons (opv (Ev.lss_i (.t rfl) (.t rfl)) ?_)
    refine nil ?_
    refine pN ?_
    refine seq ?_
    first | refine condD rfl (fun hlt2 => ?_) (fun hge2 => ?_) | refine cond rfl (fun hlt2 => ?_) (fun hge2 => ?_)
    · try simp only [Bool.and_eq_true, Bool.or_eq_true, Bool.or_eq_false_iff, Bool.and_eq_false_iff, Bool.not_eq_true', Bool.not_eq_false', decide_eq_true_eq, decide_eq_false_iff_not, Decidable.not_not] at hlt2
      refine skip ?_
      refine pN ?_
      refine seq ?_
      refine block ?_
      refine seq ?_
      refine region ?_
      refine cons (opv (Ev.indexAddr Try.underlying27 ty5 (.t rfl) (.t rfl) (by first | exact isSl_own (by repeat first | exact mH | apply mT | apply mA) | exact fun w I => IsSl.keep0 (by assumption) I.keeps) (fun _ => by omega)) ?_)
      refine cons (opv (Ev.loadS0 ty5 (.t rfl) (by first | exact isSl_own (by repeat first | exact mH | apply mT | apply mA) | exact fun w I => IsSl.keep0 (by assumption) I.keeps) (fun _ => by omega)) ?_)
      refine cons (opv (Ev.assign (.t rfl)) ?_)
      refine nil ?_
      refine pN ?_
      refine seq ?_
      refine region ?_
      refine cons (opv (Ev.move (.t rfl)) ?_)
      refine cons (opv (Ev.move (.t rfl)) ?_)
      refine cons (opv (Ev.conv_u8_u64 Try.underlying66 Try.underlying5 (.t rfl)) ?_)
      refine cons (opv (Ev.move (.t rfl)) ?_)
      refine cons (opv (Ev.shl_u64 (.t rfl) (.t rfl) (fun _ => by omega)) ?_)
      refine cons (opv (Ev.add_u64 (.t rfl) (.t rfl)) ?_)
      refine cons (opv (Ev.assign (.t rfl)) ?_)
      refine nil ?_
      refine pN ?_
      refine region ?_
      refine cons (opv (Ev.move (.t rfl)) ?_)
      refine cons (opv (Ev.bits_i (r := sh (!q)) (m := sh q) (n := 8) (.inr (.inr rfl)) (.t rfl) (.c rfl) (fun _ => by cases q <;> decide) (fun _ => by decide) (by cases q <;> rfl)) ?_)
      refine cons (opv (Ev.assign (.t rfl)) ?_)
      refine nil ?_
      refine bN ?_
      refine pN ?_
      refine region ?_
      refine cons (opv (Ev.add_i (.t rfl) (.c (v := I 1) rfl) (fun _ => by omega)) ?_)
      refine cons (opv (Ev.move (.t rfl)) ?_)
      refine nil ?_
      refine pN ?_
      refine next (X := Int × UInt64 × Bool) (j + 1, _, !q) ⟨?_, ?_⟩ ?_ (by repeat first | exact Sub.nil | refine Sub.cons rfl ?_) (by repeat first | exact sR | exact sN | apply sC | apply sS | apply sA)
      · try dsimp only
        omega
      · try dsimp only
        rw [← hg]
        have e : (j + 1).toNat = j.toNat + 1 := by omega
        rw [e]
        have e2 : ((sh q : Nat) : Int).toNat = sh q := rfl
        rw [e2]
        exact sumGo_step q xs _ j.toNat _ (by omega)
      · try dsimp only
        omega
    · try simp only [Bool.and_eq_true, Bool.or_eq_true, Bool.or_eq_false_iff, Bool.and_eq_false_iff, Bool.not_eq_true', Bool.not_eq_false', decide_eq_true_eq, decide_eq_false_iff_not, Decidable.not_not] at hge2
      have hq : sumGo q (xss.drop (i + 1).toNat).flatten g = sumGo p (xs ++ (xss.drop (i + 1).toNat).flatten) h := by
        rw [List.drop_eq_nil_of_le (by omega)] at hg; exact hg
      refine exit ?_
      refine pX ?_
      refine pX ?_
      refine bX ?_
      refine bN ?_
      refine pN ?_
      refine region ?_
      refine cons (opv (Ev.add_i (.t rfl) (.c (v := I 1) rfl) (fun _ => by omega)) ?_)
      refine cons (opv (Ev.move (.t rfl)) ?_)
      refine nil ?_
      refine pN ?_
      refine next (X := Int × UInt64 × Bool) (i + 1, _, _) ⟨?_, ?_⟩ ?_ (by repeat first | exact Sub.nil | refine Sub.cons rfl ?_) (by repeat first | exact sR | exact sN | apply sC | apply sS | apply sA)
      · try dsimp only
        omega
      · try dsimp only
        exact hq.trans hh
      · try dsimp only
        omega
  · try simp only [Bool.and_eq_true, Bool.or_eq_true, Bool.or_eq_false_iff, Bool.and_eq_false_iff, Bool.not_eq_true', Bool.not_eq_false', decide_eq_true_eq, decide_eq_false_iff_not, Decidable.not_not] at hge
    refine exit ?_
    refine pX ?_
    refine pX ?_
    refine bX ?_
    refine pN ?_
    refine seq ?_
    refine region ?_
    refine cons (opv (Ev.move (.t rfl)) ?_)
    refine cons (callv en67 (.cons (.t rfl) .nil) (fun w I => ofold_ok _ w) ?_)
    refine cons (opv (Ev.compl_u16 (.t rfl)) ?_)
    refine cons (opv (Ev.assign (.t rfl)) ?_)
    refine nil ?_
    refine pN ?_
    refine ret ?_
    refine done rfl (.tmp rfl .nil) (retE ?_)
    have e : xss.drop i.toNat = [] := List.drop_eq_nil_of_le (by omega)
    rw [e] at hh
    rw [compl_fold]
    unfold sumB
    rw [← hh]; rfl

theorem en60 : Enters Try.prog 60 := Enters.mk' (by kernel_rfl)

theorem rsum_ok (u : Value) (b : List UInt8) (w : World) (hb : IsSl u8E w u b) : Calls Try.prog 47 #[u] w (RetV w (U16 (sumB b))) := by
  have hbl := hb.le
  refine enter0 29 Try.func47 rfl rfl (Nat.le_of_ble_eq_true rfl) ?_
  refine seq ?_
  refine region ?_
  refine cons (opv (Ev.assign (.c (v := U16 0) rfl)) ?_)
  refine nil ?_
  refine pN ?_
  refine seq ?_
  refine region ?_
  refine cons (opv (Ev.assign (.c (v := U64 0) rfl)) ?_)
  refine nil ?_
  refine pN ?_
  refine seq ?_
  refine seq ?_
  refine region ?_
  refine cons (opv (Ev.assign (.c (v := I 0) rfl)) ?_)
  refine nil ?_
  refine pN ?_
  refine block ?_
  refine loop (X := Int × UInt64) (fun x : Int × UInt64 => (0 ≤ x.1 ∧ x.1 ≤ b.length) ∧ (sumGo (decide (x.1 % 2 = 0)) (b.drop x.1.toNat) x.2 = sumGo true b 0)) (fun x : Int × UInt64 => [(0, true, u), (3, true, U64 x.2), (4, true, I x.1)]) (fun x : Int × UInt64 => []) (fun x : Int × UInt64 => (b.length - x.1).toNat) (0, _) ⟨?_, ?_⟩ (by repeat first | exact Sub.nil | refine Sub.cons rfl ?_) (by repeat first | exact sR | exact sN | apply sC | apply sS | apply sA) (fun x hx => ?_)
  · omega
  · rfl
  obtain ⟨i, h⟩ := x
  obtain ⟨hi, hh⟩ : (0 ≤ i ∧ i ≤ b.length) ∧ (sumGo (decide (i % 2 = 0)) (b.drop i.toNat) h = sumGo true b 0) := hx
  show Sat _ _ [(0, true, u), (3, true, U64 h), (4, true, I i)] []
  refine seq ?_
  refine seq ?_
  refine region ?_
  refine cons (opv (Ev.move (.t rfl)) ?_)
  refine cons (opv (Ev.move (.t rfl)) ?_)
  refine cons (opv (Ev.len Try.underlying27 (.t rfl) (by first | exact isSl_own (by repeat first | exact mH | apply mT | apply mA) | exact fun w I => IsSl.keep0 (by assumption) I.keeps)) ?_)
  refine cons (opv (Ev.lss_i (.t rfl) (.t rfl)) ?_)
  refine nil ?_
  refine pN ?_
  first | refine condD rfl (fun hlt => ?_) (fun hge => ?_) | refine cond rfl (fun hlt => ?_) (fun hge => ?_)
  · try simp only [Bool.and_eq_true, Bool.or_eq_true, Bool.or_eq_false_iff, Bool.and_eq_false_iff, Bool.not_eq_true', Bool.not_eq_false', decide_eq_true_eq, decide_eq_false_iff_not, Decidable.not_not] at hlt
    refine skip ?_
    refine pN ?_
    refine seq ?_
    refine block ?_
    refine seq ?_
    refine region ?_
    refine cons (opv (Ev.move (.t rfl)) ?_)
    refine cons (opv (Ev.move (.t rfl)) ?_)
    refine cons (opv (Ev.indexAddr Try.underlying27 ty5 (.t rfl) (.t rfl) (by first | exact isSl_own (by repeat first | exact mH | apply mT | apply mA) | exact fun w I => IsSl.keep0 (by assumption) I.keeps) (fun _ => by omega)) ?_)
    refine cons (opv (Ev.loadS0 ty5 (.t rfl) (by first | exact isSl_own (by repeat first | exact mH | apply mT | apply mA) | exact fun w I => IsSl.keep0 (by assumption) I.keeps) (fun _ => by omega)) ?_)
    refine cons (opv (Ev.conv_u8_u64 Try.underlying66 Try.underlying5 (.t rfl)) ?_)
    refine cons (opv (Ev.assign (.t rfl)) ?_)
    refine nil ?_
    refine pN ?_
    refine seq ?_
    refine seq ?_
    refine region ?_
    refine cons (opv (Ev.move (.t rfl)) ?_)
    refine cons (opv (Ev.rem_n (.t rfl) (.c (v := I 2) rfl) (fun _ => by omega) (fun _ => by omega)) ?_)
    refine cons (opv (Ev.eql_i (.t rfl) (.c (v := I 0) rfl)) ?_)
    refine nil ?_
    refine pN ?_
    first | refine condD rfl (fun h1 => ?_) (fun h1 => ?_) | refine cond rfl (fun h1 => ?_) (fun h1 => ?_)
    · try simp only [Bool.and_eq_true, Bool.or_eq_true, Bool.or_eq_false_iff, Bool.and_eq_false_iff, Bool.not_eq_true', Bool.not_eq_false', decide_eq_true_eq, decide_eq_false_iff_not, Decidable.not_not] at h1
      have hv : (b.getD i.toNat 0).toUInt64 * 256 = shl64 (b.getD i.toNat 0).toUInt64 (sh (decide (i % 2 = 0))) := by
        rw [decide_eq_true h1]
        apply UInt64.toNat_inj.1
        rw [toNat_shl64, UInt64.toNat_mul]
        rfl
      refine region ?_
      refine cons (opv (Ev.move (.t rfl)) ?_)
      refine cons (opv (Ev.mul_u64 (.t rfl) (.c (v := U64 256) rfl)) ?_)
      refine cons (opv (Ev.assign (.t rfl)) ?_)
      refine nil ?_
      refine pN ?_
      refine region ?_
      refine cons (opv (Ev.move (.t rfl)) ?_)
      refine cons (opv (Ev.move (.t rfl)) ?_)
      refine cons (opv (Ev.add_u64 (.t rfl) (.t rfl)) ?_)
      refine cons (opv (Ev.assign (.t rfl)) ?_)
      refine nil ?_
      refine bN ?_
      refine pN ?_
      refine region ?_
      refine cons (opv (Ev.move (.t rfl)) ?_)
      refine cons (opv (Ev.add_i (.t rfl) (.c (v := I 1) rfl) (fun _ => by omega)) ?_)
      refine cons (opv (Ev.assign (.t rfl)) ?_)
      refine nil ?_
      refine pN ?_
      refine next (X := Int × UInt64) (i + 1, _) ⟨?_, ?_⟩ ?_ (by repeat first | exact Sub.nil | refine Sub.cons rfl ?_) (by repeat first | exact sR | exact sN | apply sC | apply sS | apply sA)
      · try dsimp only
        omega
      · try dsimp only
        rw [← hh]
        have e : (i + 1).toNat = i.toNat + 1 := by omega
        have e2 := sumGo_step (decide (i % 2 = 0)) b [] i.toNat h (by omega)
        rw [List.append_nil, List.append_nil] at e2
        rw [e, ← e2]
        have e3 : decide ((i + 1) % 2 = 0) = !decide (i % 2 = 0) := by
          rw [Bool.eq_iff_iff]
          simp
          omega
        rw [e3]
        exact congrArg (fun z => sumGo _ _ (h + z)) hv
      · try dsimp only
        omega
    · try simp only [Bool.and_eq_true, Bool.or_eq_true, Bool.or_eq_false_iff, Bool.and_eq_false_iff, Bool.not_eq_true', Bool.not_eq_false', decide_eq_true_eq, decide_eq_false_iff_not, Decidable.not_not] at h1
      have hv : (b.getD i.toNat 0).toUInt64 = shl64 (b.getD i.toNat 0).toUInt64 (sh (decide (i % 2 = 0))) := by
        rw [decide_eq_false h1]
        apply UInt64.toNat_inj.1
        have := (b.getD i.toNat 0).toUInt64.toNat_lt
        rw [toNat_shl64]
        show _ = _ * 2 ^ 0 % _
        omega
      refine skip ?_
      refine pN ?_
      refine region ?_
      refine cons (opv (Ev.move (.t rfl)) ?_)
      refine cons (opv (Ev.move (.t rfl)) ?_)
      refine cons (opv (Ev.add_u64 (.t rfl) (.t rfl)) ?_)
      refine cons (opv (Ev.assign (.t rfl)) ?_)
      refine nil ?_
      refine bN ?_
      refine pN ?_
      refine region ?_
      refine cons (opv (Ev.move (.t rfl)) ?_)
      refine cons (opv (Ev.add_i (.t rfl) (.c (v := I 1) rfl) (fun _ => by omega)) ?_)
      refine cons (opv (Ev.assign (.t rfl)) ?_)
      refine nil ?_
      refine pN ?_
      refine next (X := Int × UInt64) (i + 1, _) ⟨?_, ?_⟩ ?_ (by repeat first | exact Sub.nil | refine Sub.cons rfl ?_) (by repeat first | exact sR | exact sN | apply sC | apply sS | apply sA)
      · try dsimp only
        omega
      · try dsimp only
        rw [← hh]
        have e : (i + 1).toNat = i.toNat + 1 := by omega
        have e2 := sumGo_step (decide (i % 2 = 0)) b [] i.toNat h (by omega)
        rw [List.append_nil, List.append_nil] at e2
        rw [e, ← e2]
        have e3 : decide ((i + 1) % 2 = 0) = !decide (i % 2 = 0) := by
          rw [Bool.eq_iff_iff]
          simp
          omega
        rw [e3]
        exact congrArg (fun z => sumGo _ _ (h + z)) hv
      · try dsimp only
        omega
  · try simp only [Bool.and_eq_true, Bool.or_eq_true, Bool.or_eq_false_iff, Bool.and_eq_false_iff, Bool.not_eq_true', Bool.not_eq_false', decide_eq_true_eq, decide_eq_false_iff_not, Decidable.not_not] at hge
    refine exit ?_
    refine pX ?_
    refine pX ?_
    refine bX ?_
    refine pN ?_
    refine seq ?_
    refine region ?_
    refine cons (opv (Ev.move (.t rfl)) ?_)
    refine cons (callv en60 (.cons (.t rfl) .nil) (fun w I => rfold_ok _ w) ?_)
    refine cons (opv (Ev.sub_u64 (.c (v := U64 65535) rfl) (.t rfl)) ?_)
    refine cons (opv (Ev.conv_u64_u16 Try.underlying25 Try.underlying66 (.t rfl)) ?_)
    refine cons (opv (Ev.assign (.t rfl)) ?_)
    refine nil ?_
    refine pN ?_
    refine ret ?_
    refine done rfl (.tmp rfl .nil) (retE ?_)
    have e : b.drop i.toNat = [] := List.drop_eq_nil_of_le (by omega)
    rw [e] at hh
    have hh2 : h = sumGo true b 0 := hh
    rw [sub_fold, hh2]; rfl

theorem join_ok (u : Value) (xss : List (List UInt8)) (w : World) (hs : IsSS u8E w u xss) (hl : xss.flatten.length ≤ 140737488355328) : Calls Try.prog 43 #[u] w (RetO w u8E xss.flatten 5) := by
  obtain ⟨vs, hvs, hvl, he⟩ := hs
  have hvle := hvs.le
  refine enter0 18 Try.func43 rfl rfl (Nat.le_of_ble_eq_true rfl) ?_
  refine seq ?_
  refine region ?_
  refine cons (opv (Ev.assign (.c (v := (Go.Value.slice none 0 0)) rfl)) ?_)
  refine nil ?_
  refine pN ?_
  refine seq ?_
  refine region ?_
  refine cons (opv (Ev.assign (.c (v := (Go.Value.slice none 0 0)) rfl)) ?_)
  refine takeNil u8E 5 ?_
  refine nil ?_
  refine pN ?_
  refine seq ?_
  refine seq ?_
  refine region ?_
  refine cons (opv (Ev.assign (.c (v := I 0) rfl)) ?_)
  refine nil ?_
  refine pN ?_
  refine block ?_
  refine loop (X := Int × OV × (List UInt8)) (fun x : Int × OV × (List UInt8) => (0 ≤ x.1 ∧ x.1 ≤ xss.length) ∧ (x.2.2 ++ (xss.drop x.1.toNat).flatten = xss.flatten)) (fun x : Int × OV × (List UInt8) => [(0, true, u), (3, true, x.2.1.v), (4, true, I x.1)]) (fun x : Int × OV × (List UInt8) => [OwnS x.2.1.v u8E x.2.2 5]) (fun x : Int × OV × (List UInt8) => (xss.length - x.1).toNat) (0, nilSl, _) ⟨?_, ?_⟩ (by repeat first | exact Sub.nil | refine Sub.cons rfl ?_) (by repeat first | exact sR | exact sN | apply sC | apply sS | apply sA) (fun x hx => ?_)
  · omega
  · rfl
  obtain ⟨i, o, ys⟩ := x
  obtain ⟨hi, hy⟩ : (0 ≤ i ∧ i ≤ xss.length) ∧ (ys ++ (xss.drop i.toNat).flatten = xss.flatten) := hx
  show Sat _ _ [(0, true, u), (3, true, o.v), (4, true, I i)] [OwnS o.v u8E ys 5]
  refine seq ?_
  refine seq ?_
  refine region ?_
  refine cons (opv (Ev.move (.t rfl)) ?_)
  refine cons (opv (Ev.move (.t rfl)) ?_)
  refine cons (opv (Ev.len Try.underlying79 (.t rfl) (fun w I => hvs.keep0 I.keeps)) ?_)
  refine cons (opv (Ev.lss_i (.t rfl) (.t rfl)) ?_)
  refine nil ?_
  refine pN ?_
  first | refine condD rfl (fun hlt => ?_) (fun hge => ?_) | refine cond rfl (fun hlt => ?_) (fun hge => ?_)
  · try simp only [Bool.and_eq_true, Bool.or_eq_true, Bool.or_eq_false_iff, Bool.and_eq_false_iff, Bool.not_eq_true', Bool.not_eq_false', decide_eq_true_eq, decide_eq_false_iff_not, Decidable.not_not] at hlt
    refine skip ?_
    refine pN ?_
    refine seq ?_
    refine block ?_
    refine region ?_
    have hd : xss.drop i.toNat = xss.getD i.toNat [] :: xss.drop (i + 1).toNat := by
      have e : (i + 1).toNat = i.toNat + 1 := by omega
      rw [e, List.drop_eq_getElem_cons (by omega)]; simp [List.getD, show i.toNat < xss.length by omega]
    have hx := he i.toNat (by omega)
    have hyl : ys.length + (xss.getD i.toNat []).length ≤ xss.flatten.length := by
      rw [← hy, hd, List.flatten_cons]; simp
    change IsSl u8E w (vs.getD i.toNat nilSl).v _ at hx
    refine cons (opv (Ev.move (.t rfl)) ?_)
    refine cons (opv (Ev.move (.t rfl)) ?_)
    refine cons (opv (Ev.move (.t rfl)) ?_)
    refine cons (opv (Ev.indexAddr Try.underlying79 ty27 (.t rfl) (.t rfl) (fun w I => hvs.keep0 I.keeps) (fun _ => by omega)) ?_)
    refine cons (opv (Ev.loadS0 ty27 (.t rfl) (fun w I => hvs.keep0 I.keeps) (fun _ => by omega)) ?_)
    refine cons (append (E := u8E) Try.underlying27 ty5 rfl zb5 zs5 (.t rfl) (.t rfl) (fun _ => by repeat first | exact Upd.head | apply Upd.tail | apply Upd.right) (fun w I => hx.keep0 I.keeps) (⟨by (show _ ≤ 9223372036854775807); first | omega | (simp; done) | (simp; omega), by first | omega | (simp; done) | (simp; omega)⟩) (fun v1 => ?_))
    refine cons (opv (Ev.assign (.t rfl)) ?_)
    refine nil ?_
    refine bN ?_
    refine pN ?_
    refine region ?_
    refine cons (opv (Ev.move (.t rfl)) ?_)
    refine cons (opv (Ev.add_i (.t rfl) (.c (v := I 1) rfl) (fun _ => by omega)) ?_)
    refine cons (opv (Ev.assign (.t rfl)) ?_)
    refine nil ?_
    refine pN ?_
    refine next (X := Int × OV × (List UInt8)) (i + 1, _, _) ⟨?_, ?_⟩ ?_ (by repeat first | exact Sub.nil | refine Sub.cons rfl ?_) (by repeat first | exact sR | exact sN | apply sC | apply sS | apply sA)
    · try dsimp only
      omega
    · try dsimp only
      rw [← hy, hd, List.flatten_cons, List.append_assoc]
    · try dsimp only
      omega
  · try simp only [Bool.and_eq_true, Bool.or_eq_true, Bool.or_eq_false_iff, Bool.and_eq_false_iff, Bool.not_eq_true', Bool.not_eq_false', decide_eq_true_eq, decide_eq_false_iff_not, Decidable.not_not] at hge
    refine exit ?_
    refine pX ?_
    refine pX ?_
    refine bX ?_
    refine pN ?_
    refine seq ?_
    refine region ?_
    refine cons (opv (Ev.move (.t rfl)) ?_)
    refine cons (opv (Ev.assign (.t rfl)) ?_)
    refine nil ?_
    refine pN ?_
    refine ret ?_
    refine done rfl (.tmp rfl .nil) (retOE (by repeat first | exact mH | apply mT | apply mA) ?_)
    have e : xss.drop i.toNat = [] := List.drop_eq_nil_of_le (by omega)
    rw [e] at hy
    simpa using hy

theorem bytes_ok (v : UInt64) (n : Nat) (w : World) (hn : n ≤ 8) : Calls Try.prog 44 #[U64 v, I n] w (RetO w u8E (putB n v) 5) := by
  refine enter0 22 Try.func44 rfl rfl (Nat.le_of_ble_eq_true rfl) ?_
  refine seq ?_
  refine region ?_
  refine cons (opv (Ev.assign (.c (v := (Go.Value.slice none 0 0)) rfl)) ?_)
  refine nil ?_
  refine pN ?_
  refine seq ?_
  refine region ?_
  refine cons (opv (Ev.assign (.c (v := (Go.Value.slice none 0 0)) rfl)) ?_)
  refine takeNil u8E 5 ?_
  refine nil ?_
  refine pN ?_
  refine seq ?_
  refine seq ?_
  refine region ?_
  refine cons (opv (Ev.move (.t rfl)) ?_)
  refine cons (opv (Ev.sub_i (.t rfl) (.c (v := I 1) rfl) (fun _ => by omega)) ?_)
  refine cons (opv (Ev.assign (.t rfl)) ?_)
  refine nil ?_
  refine pN ?_
  refine block ?_
  refine loop (X := Int × OV × (List UInt8)) (fun x : Int × OV × (List UInt8) => (-1 ≤ x.1 ∧ x.1 ≤ n - 1) ∧ (x.2.2 ++ putB (x.1 + 1).toNat v = putB n v)) (fun x : Int × OV × (List UInt8) => [(0, true, U64 v), (5, true, x.2.1.v), (6, true, I x.1)]) (fun x : Int × OV × (List UInt8) => [OwnS x.2.1.v u8E x.2.2 5]) (fun x : Int × OV × (List UInt8) => (x.1 + 1).toNat) (_, nilSl, _) ⟨?_, ?_⟩ (by repeat first | exact Sub.nil | refine Sub.cons rfl ?_) (by repeat first | exact sR | exact sN | apply sC | apply sS | apply sA) (fun x hx => ?_)
  · omega
  · have e : ((n : Int) - 1 + 1).toNat = n := by omega
    simp only [e, List.nil_append]
  obtain ⟨i, o, ys⟩ := x
  obtain ⟨hi, hy⟩ : (-1 ≤ i ∧ i ≤ n - 1) ∧ (ys ++ putB (i + 1).toNat v = putB n v) := hx
  show Sat _ _ [(0, true, U64 v), (5, true, o.v), (6, true, I i)] [OwnS o.v u8E ys 5]
  have hyl : ys.length ≤ n := by
    have := congrArg List.length hy
    simp [putB_length] at this
    omega
  refine seq ?_
  refine seq ?_
  refine region ?_
  refine cons (opv (Ev.move (.t rfl)) ?_)
  refine cons (opv (Ev.geq_i (.t rfl) (.c (v := I 0) rfl)) ?_)
  refine nil ?_
  refine pN ?_
  first | refine condD rfl (fun h0 => ?_) (fun h0 => ?_) | refine cond rfl (fun h0 => ?_) (fun h0 => ?_)
  · try simp only [Bool.and_eq_true, Bool.or_eq_true, Bool.or_eq_false_iff, Bool.and_eq_false_iff, Bool.not_eq_true', Bool.not_eq_false', decide_eq_true_eq, decide_eq_false_iff_not, Decidable.not_not] at h0
    refine skip ?_
    refine pN ?_
    refine seq ?_
    refine block ?_
    refine region ?_
    refine cons (opv (Ev.move (.t rfl)) ?_)
    refine cons (opv (Ev.move (.t rfl)) ?_)
    refine cons (opv (Ev.move (.t rfl)) ?_)
    refine cons (opv (Ev.mul_i (.c (v := I 8) rfl) (.t rfl) (fun _ => by omega)) ?_)
    refine cons (opv (Ev.shr_u64 (.t rfl) (.t rfl) (fun _ => by omega)) ?_)
    refine cons (opv (Ev.conv_u64_u8 Try.underlying5 Try.underlying66 (.t rfl)) ?_)
    refine cons (buildSlice (E := u8E) Try.underlying27 ty5 z5 (.cons (.t rfl) .nil) rfl rfl (fun v1 => ?_))
    refine cons (append (E := u8E) Try.underlying27 ty5 rfl zb5 zs5 (.t rfl) (.t rfl) (fun _ => by repeat first | exact Upd.head | apply Upd.tail | apply Upd.right) (by first | exact isSl_own (by repeat first | exact mH | apply mT | apply mA) | exact fun w I => IsSl.keep0 (by assumption) I.keeps) (⟨by (show _ ≤ 9223372036854775807); first | omega | (simp; done) | (simp; omega), by first | omega | (simp; done) | (simp; omega)⟩) (fun v2 => ?_))
    refine cons (opv (Ev.assign (.t rfl)) ?_)
    refine nil ?_
    refine bN ?_
    refine pN ?_
    refine region ?_
    refine cons (opv (Ev.move (.t rfl)) ?_)
    refine cons (opv (Ev.sub_i (.t rfl) (.c (v := I 1) rfl) (fun _ => by omega)) ?_)
    refine cons (opv (Ev.assign (.t rfl)) ?_)
    refine nil ?_
    refine pN ?_
    refine next (X := Int × OV × (List UInt8)) (i - 1, _, _) ⟨?_, ?_⟩ ?_ (by repeat first | exact Sub.nil | refine Sub.cons rfl ?_) (by repeat first | exact sR | exact sN | apply sC | apply sS | apply sA)
    · try dsimp only
      omega
    · try dsimp only
      rw [← hy]
      have e : (i + 1).toNat = (i - 1 + 1).toNat + 1 := by omega
      have e3 : (8 * i).toNat = 8 * (i - 1 + 1).toNat := by omega
      rw [e, List.append_assoc, List.append_cancel_left_eq, e3]
      rfl
    · try dsimp only
      omega
  · try simp only [Bool.and_eq_true, Bool.or_eq_true, Bool.or_eq_false_iff, Bool.and_eq_false_iff, Bool.not_eq_true', Bool.not_eq_false', decide_eq_true_eq, decide_eq_false_iff_not, Decidable.not_not] at h0
    refine exit ?_
    refine pX ?_
    refine pX ?_
    refine bX ?_
    refine pN ?_
    refine seq ?_
    refine region ?_
    refine cons (opv (Ev.move (.t rfl)) ?_)
    refine cons (opv (Ev.assign (.t rfl)) ?_)
    refine nil ?_
    refine pN ?_
    refine ret ?_
    refine done rfl (.tmp rfl .nil) (retOE (by repeat first | exact mH | apply mT | apply mA) ?_)
    have e : (i + 1).toNat = 0 := by omega
    rw [e] at hy
    simpa [putB] using hy
end Go.Proofs.Ytegcihhhighipaa
