/- octets -/
import Derived.Test.YtcmpdhggeilkfaaRows
import Derived.Test.YtcmpdhggeilkfaaGxG
set_option linter.unusedVariables false
set_option linter.unusedSimpArgs false
namespace Go.Proofs.Ytcmpdhggeilkfaa
open Go Go.Gx

/-- The lowest n bytes of a number, the highest first. -/
def putB : Nat → UInt64 → List UInt8
  | 0, _ => []
  | n + 1, v => (shr64 v (8 * n)).toUInt8 :: putB n v
theorem putB_length (n : Nat) (v : UInt64) : (putB n v).length = n := by
  induction n with
  | zero => rfl
  | succ n ih => simp [putB, ih]


/-- FNV-1a, going on. -/
def hashB (h : UInt64) (l : List UInt8) : UInt64 := l.foldl (fun h x => (h ^^^ x.toUInt64) * 1099511628211) h
theorem hashB_step (g : UInt64) (xs r : List UInt8) (j : Nat) (hj : j < xs.length) : hashB ((g ^^^ (xs.getD j 0).toUInt64) * 1099511628211) (xs.drop (j + 1) ++ r) = hashB g (xs.drop j ++ r) := by
  rw [List.drop_eq_getElem_cons hj]
  have e : xs.getD j 0 = xs[j] := by simp [List.getD, hj]
  rw [e]
  rfl


theorem width_uint8_ok (w : World) : Calls Try.prog 38 #[] w (RetV w (I 1)) := by
  refine enter0 13 Try.func38 rfl rfl (Nat.le_of_ble_eq_true rfl) ?_
  refine seq ?_
  refine region ?_
  refine cons (opv (Ev.assign (.c (v := I 0) rfl)) ?_)
  refine nil ?_
  refine pN ?_
  refine seq ?_
  refine region ?_
  refine cons (opv (Ev.assign (.c (v := I 0) rfl)) ?_)
  refine nil ?_
  refine pN ?_
  refine seq ?_
  refine seq ?_
  refine region ?_
  refine cons (opv (Ev.conv_i_u8 Try.underlying5 Try.underlying3 (.c (v := I 0) rfl)) ?_)
  refine cons (opv (Ev.compl_u8 (.t rfl)) ?_)
  refine cons (opv (Ev.conv_u8_u64 Try.underlying23 Try.underlying5 (.t rfl)) ?_)
  refine cons (opv (Ev.assign (.t rfl)) ?_)
  refine nil ?_
  refine pN ?_
  refine block ?_
  refine loop (X := Nat × UInt64) (fun x : Nat × UInt64 => (x.1 ≤ 1) ∧ (x.2.toNat + 1 = 256 ^ (1 - x.1))) (fun x : Nat × UInt64 => [(0, true, I 0), (1, true, I x.1), (2, true, U64 x.2)]) (fun x : Nat × UInt64 => []) (fun x : Nat × UInt64 => 1 - x.1) (0, _) ⟨?_, ?_⟩ (by repeat first | exact Sub.nil | refine Sub.cons rfl ?_) (by repeat first | exact List.Sublist.refl _ | apply List.Sublist.cons_cons | apply List.Sublist.cons) (fun x hx => ?_)
  · omega
  · decide
  obtain ⟨k, t⟩ := x
  obtain ⟨hk, ht⟩ : (k ≤ 1) ∧ (t.toNat + 1 = 256 ^ (1 - k)) := hx
  show Sat _ _ [(0, true, I 0), (1, true, I k), (2, true, U64 t)] []
  refine seq ?_
  refine seq ?_
  refine region ?_
  refine cons (opv (Ev.move (.t rfl)) ?_)
  refine cons (opv (Ev.gtr_u64 (.t rfl) (.c (v := U64 0) rfl)) ?_)
  refine nil ?_
  refine pN ?_
  first | refine condD rfl (fun h0 => ?_) (fun h0 => ?_) | refine cond rfl (fun h0 => ?_) (fun h0 => ?_)
  · try simp only [Bool.and_eq_true, Bool.or_eq_true, Bool.or_eq_false_iff, Bool.and_eq_false_iff, Bool.not_eq_true', Bool.not_eq_false', decide_eq_true_eq, decide_eq_false_iff_not, Decidable.not_not] at h0
    have hkn : k < 1 := by
      rcases Nat.lt_or_ge k 1 with h | h
      · exact h
      · have e : k = 1 := by omega
        subst e
        simp [UInt64.lt_iff_toNat_lt] at h0 ht
        omega
    refine skip ?_
    refine pN ?_
    refine seq ?_
    refine block ?_
    refine region ?_
    refine cons (opv (Ev.move (.t rfl)) ?_)
    refine cons (opv (Ev.add_i (.t rfl) (.c (v := I 1) rfl) (fun _ => by omega)) ?_)
    refine cons (opv (Ev.assign (.t rfl)) ?_)
    refine nil ?_
    refine bN ?_
    refine pN ?_
    refine region ?_
    refine cons (opv (Ev.move (.t rfl)) ?_)
    refine cons (opv (Ev.shr_u64 (.t rfl) (.c rfl) (fun _ => by decide)) ?_)
    refine cons (opv (Ev.assign (.t rfl)) ?_)
    refine nil ?_
    refine pN ?_
    refine next (X := Nat × UInt64) (k + 1, shr64 t 8) ⟨?_, ?_⟩ ?_ (by repeat first | exact Sub.nil | refine Sub.cons rfl ?_) (by repeat first | exact List.Sublist.refl _ | apply List.Sublist.cons_cons | apply List.Sublist.cons)
    · try dsimp only
      omega
    · try dsimp only
      rw [toNat_shr64]; have e : 1 - k = (1 - (k + 1)) + 1 := by omega
      rw [e, Nat.pow_succ] at ht
      omega
    · try dsimp only
      first | omega | (simp; omega)
  · try simp only [Bool.and_eq_true, Bool.or_eq_true, Bool.or_eq_false_iff, Bool.and_eq_false_iff, Bool.not_eq_true', Bool.not_eq_false', decide_eq_true_eq, decide_eq_false_iff_not, Decidable.not_not] at h0
    have hkn : k = 1 := by
      rcases Nat.lt_or_ge k 1 with h | h
      · have e : 1 - k = (1 - (k + 1)) + 1 := by omega
        have hp : 0 < 256 ^ (1 - (k + 1)) := Nat.pow_pos (by decide)
        rw [e, Nat.pow_succ] at ht
        simp [UInt64.lt_iff_toNat_lt] at h0
        omega
      · omega
    subst hkn
    refine exit ?_
    refine pX ?_
    refine pX ?_
    refine bX ?_
    refine pN ?_
    refine seq ?_
    refine region ?_
    refine cons (opv (Ev.move (.t rfl)) ?_)
    refine cons (opv (Ev.assign (.t rfl)) ?_)
    refine nil ?_
    refine pN ?_
    refine ret ?_
    refine done rfl (.tmp rfl .nil) (retE ?_)
    first | rfl | (simp; done)

theorem ty5 : TyOK Try.prog 5 u8E := TyOK.mk' (by kernel_rfl) (by kernel_rfl)

theorem zb5 : (Try.prog.info? 5).map (fun i => (i.zero, i.bytes)) = some (some (u8E.val u8E.zero), 1) := by kernel_rfl

theorem zs5 : (u8E.val u8E.zero).cells.size = u8E.size := by rw [Enc.cells_val, List.size_toArray, Enc.len]

theorem en38 : Enters Try.prog 38 := Enters.mk' (by kernel_rfl)

theorem z5 : (Try.prog.info? 5).bind (·.zero) = some (u8E.val u8E.zero) := by kernel_rfl

theorem put_uint8_ok (u : Value) (b : List UInt8) (v : UInt8) (w : World) (hb : IsSl u8E w u b) (hl : b.length + 1 ≤ 140737488355328) :
    Calls Try.prog 13 #[u, U8 v] w (RetO w u8E (b ++ putB 1 v.toUInt64) 5) := by
  have hbl := hb.le
  refine enter0 34 Try.func13 rfl rfl (Nat.le_of_ble_eq_true rfl) ?_
  refine seq ?_
  refine region ?_
  refine cons (opv (Ev.assign (.c (v := (Go.Value.slice none 0 0)) rfl)) ?_)
  refine nil ?_
  refine pN ?_
  refine seq ?_
  refine region ?_
  refine cons (callv en38 .nil (fun w I => width_uint8_ok w) ?_)
  refine cons (opv (Ev.assign (.t rfl)) ?_)
  refine nil ?_
  refine pN ?_
  refine seq ?_
  refine region ?_
  refine cons (opv (Ev.move (.t rfl)) ?_)
  refine cons (opv (Ev.len Try.underlying22 (.t rfl) (by first | exact isSl_own (by repeat first | exact List.Mem.head _ | apply List.Mem.tail) | exact fun w I => IsSl.keep0 (by assumption) I.keeps)) ?_)
  refine cons (opv (Ev.move (.t rfl)) ?_)
  refine cons (opv (Ev.len Try.underlying22 (.t rfl) (by first | exact isSl_own (by repeat first | exact List.Mem.head _ | apply List.Mem.tail) | exact fun w I => IsSl.keep0 (by assumption) I.keeps)) ?_)
  refine cons (opv (Ev.move (.t rfl)) ?_)
  refine cons (opv (Ev.add_i (.t rfl) (.t rfl) (fun _ => by omega)) ?_)
  refine cons (makeSl (E := u8E) Try.underlying22 ty5 rfl zb5 (.t rfl) (.t rfl) ⟨by omega, by omega⟩ ⟨by omega, by omega⟩ (fun o1 => ?_))
  refine cons (opv (Ev.assign (.t rfl)) ?_)
  refine nil ?_
  refine pN ?_
  refine seq ?_
  refine region ?_
  refine cons (opv (Ev.move (.t rfl)) ?_)
  refine cons (opv (Ev.move (.t rfl)) ?_)
  refine cons (copyO (E := u8E) Try.underlying22 ty5 (.t rfl) (.t rfl) (by repeat first | exact Upd.head | apply Upd.tail) (fun w I => hb.keep0 I.keeps) ?_)
  refine nil ?_
  refine pN ?_
  refine seq ?_
  refine seq ?_
  refine region ?_
  refine cons (opv (Ev.move (.t rfl)) ?_)
  refine cons (opv (Ev.sub_i (.t rfl) (.c (v := I 1) rfl) (fun _ => by omega)) ?_)
  refine cons (opv (Ev.assign (.t rfl)) ?_)
  refine nil ?_
  refine pN ?_
  refine block ?_
  have e1 : (List.replicate (Int.toNat (b.length : Int)) u8E.zero) = List.replicate b.length (0 : UInt8) := by rw [Int.toNat_natCast]; rfl
  rw [e1]
  have e2 : b.take (List.replicate b.length (0 : UInt8)).length ++ (List.replicate b.length (0 : UInt8)).drop b.length = b := by simp
  rw [e2]
  refine loop (X := Int × OV × (List UInt8)) (fun x : Int × OV × (List UInt8) => (-1 ≤ x.1 ∧ x.1 ≤ 0) ∧ (x.2.2 ++ putB (x.1 + 1).toNat v.toUInt64 = b ++ putB 1 v.toUInt64)) (fun x : Int × OV × (List UInt8) => [(1, true, U8 v), (5, true, I x.1), (6, true, x.2.1.v)]) (fun x : Int × OV × (List UInt8) => [OwnS x.2.1.v u8E x.2.2 5]) (fun x : Int × OV × (List UInt8) => (x.1 + 1).toNat) (_, o1, b) ⟨?_, ?_⟩ (by repeat first | exact Sub.nil | refine Sub.cons rfl ?_) (by repeat first | exact List.Sublist.refl _ | apply List.Sublist.cons_cons | apply List.Sublist.cons) (fun x hx => ?_)
  · omega
  · rfl
  obtain ⟨i, o, xs⟩ := x
  obtain ⟨hi, hxs⟩ : (-1 ≤ i ∧ i ≤ 0) ∧ (xs ++ putB (i + 1).toNat v.toUInt64 = b ++ putB 1 v.toUInt64) := hx
  show Sat _ _ [(1, true, U8 v), (5, true, I i), (6, true, o.v)] [OwnS o.v u8E xs 5]
  refine seq ?_
  refine seq ?_
  refine region ?_
  refine cons (opv (Ev.move (.t rfl)) ?_)
  refine cons (opv (Ev.geq_i (.t rfl) (.c (v := I 0) rfl)) ?_)
  refine nil ?_
  refine pN ?_
  first | refine condD rfl (fun h0 => ?_) (fun h0 => ?_) | refine cond rfl (fun h0 => ?_) (fun h0 => ?_)
  · try simp only [Bool.and_eq_true, Bool.or_eq_true, Bool.or_eq_false_iff, Bool.and_eq_false_iff, Bool.not_eq_true', Bool.not_eq_false', decide_eq_true_eq, decide_eq_false_iff_not, Decidable.not_not] at h0
    have hlen : xs.length + (i + 1).toNat = b.length + 1 := by
      have := congrArg List.length hxs
      simpa [putB_length] using this
    refine skip ?_
    refine pN ?_
    refine seq ?_
    refine block ?_
    refine region ?_
    refine cons (opv (Ev.move (.t rfl)) ?_)
    refine cons (opv (Ev.move (.t rfl)) ?_)
    refine cons (opv (Ev.conv_u8_u64 Try.underlying23 Try.underlying5 (.t rfl)) ?_)
    refine cons (opv (Ev.move (.t rfl)) ?_)
    refine cons (opv (Ev.mul_i (.c (v := I 8) rfl) (.t rfl) (fun _ => by omega)) ?_)
    refine cons (opv (Ev.shr_u64 (.t rfl) (.t rfl) (fun _ => by omega)) ?_)
    refine cons (opv (Ev.conv_u64_u8 Try.underlying5 Try.underlying23 (.t rfl)) ?_)
    refine cons (buildSlice (E := u8E) Try.underlying22 ty5 z5 (.cons (.t rfl) .nil) rfl rfl (fun v1 => ?_))
    refine cons (append (E := u8E) Try.underlying22 ty5 rfl zb5 zs5 (.t rfl) (.t rfl) (fun _ => by repeat first | exact Upd.head | apply Upd.tail) (by first | exact isSl_own (by repeat first | exact List.Mem.head _ | apply List.Mem.tail) | exact fun w I => IsSl.keep0 (by assumption) I.keeps) (⟨by (show _ ≤ 9223372036854775807); simp; omega, by simp; omega⟩) (fun v2 => ?_))
    refine cons (opv (Ev.assign (.t rfl)) ?_)
    refine nil ?_
    refine bN ?_
    refine pN ?_
    refine region ?_
    refine cons (opv (Ev.move (.t rfl)) ?_)
    refine cons (opv (Ev.sub_i (.t rfl) (.c (v := I 1) rfl) (fun _ => by omega)) ?_)
    refine cons (opv (Ev.assign (.t rfl)) ?_)
    refine nil ?_
    refine pN ?_
    refine next (X := Int × OV × (List UInt8)) (i - 1, _, _) ⟨?_, ?_⟩ ?_ (by repeat first | exact Sub.nil | refine Sub.cons rfl ?_) (by repeat first | exact List.Sublist.refl _ | apply List.Sublist.cons_cons | apply List.Sublist.cons)
    · try dsimp only
      omega
    · try dsimp only
      rw [← hxs]
      have e : (i + 1).toNat = (i - 1 + 1).toNat + 1 := by omega
      have e3 : (8 * i).toNat = 8 * (i - 1 + 1).toNat := by omega
      rw [e, List.append_assoc, List.append_cancel_left_eq, e3]
      rfl
    · try dsimp only
      omega
  · try simp only [Bool.and_eq_true, Bool.or_eq_true, Bool.or_eq_false_iff, Bool.and_eq_false_iff, Bool.not_eq_true', Bool.not_eq_false', decide_eq_true_eq, decide_eq_false_iff_not, Decidable.not_not] at h0
    have hi1 : (i + 1).toNat = 0 := by omega
    rw [hi1] at hxs
    simp only [putB, List.append_nil] at hxs
    subst hxs
    refine exit ?_
    refine pX ?_
    refine pX ?_
    refine bX ?_
    refine pN ?_
    refine seq ?_
    refine region ?_
    refine cons (opv (Ev.move (.t rfl)) ?_)
    refine cons (opv (Ev.assign (.t rfl)) ?_)
    refine nil ?_
    refine pN ?_
    refine ret ?_
    refine done rfl (.tmp rfl .nil) (retOE (by repeat first | exact List.Mem.head _ | apply List.Mem.tail) ?_)
    rfl

theorem width_uint16_ok (w : World) : Calls Try.prog 39 #[] w (RetV w (I 2)) := by
  refine enter0 13 Try.func39 rfl rfl (Nat.le_of_ble_eq_true rfl) ?_
  refine seq ?_
  refine region ?_
  refine cons (opv (Ev.assign (.c (v := I 0) rfl)) ?_)
  refine nil ?_
  refine pN ?_
  refine seq ?_
  refine region ?_
  refine cons (opv (Ev.assign (.c (v := I 0) rfl)) ?_)
  refine nil ?_
  refine pN ?_
  refine seq ?_
  refine seq ?_
  refine region ?_
  refine cons (opv (Ev.conv_i_u16 Try.underlying27 Try.underlying3 (.c (v := I 0) rfl)) ?_)
  refine cons (opv (Ev.compl_u16 (.t rfl)) ?_)
  refine cons (opv (Ev.conv_u16_u64 Try.underlying23 Try.underlying27 (.t rfl)) ?_)
  refine cons (opv (Ev.assign (.t rfl)) ?_)
  refine nil ?_
  refine pN ?_
  refine block ?_
  refine loop (X := Nat × UInt64) (fun x : Nat × UInt64 => (x.1 ≤ 2) ∧ (x.2.toNat + 1 = 256 ^ (2 - x.1))) (fun x : Nat × UInt64 => [(0, true, I 0), (1, true, I x.1), (2, true, U64 x.2)]) (fun x : Nat × UInt64 => []) (fun x : Nat × UInt64 => 2 - x.1) (0, _) ⟨?_, ?_⟩ (by repeat first | exact Sub.nil | refine Sub.cons rfl ?_) (by repeat first | exact List.Sublist.refl _ | apply List.Sublist.cons_cons | apply List.Sublist.cons) (fun x hx => ?_)
  · omega
  · decide
  obtain ⟨k, t⟩ := x
  obtain ⟨hk, ht⟩ : (k ≤ 2) ∧ (t.toNat + 1 = 256 ^ (2 - k)) := hx
  show Sat _ _ [(0, true, I 0), (1, true, I k), (2, true, U64 t)] []
  refine seq ?_
  refine seq ?_
  refine region ?_
  refine cons (opv (Ev.move (.t rfl)) ?_)
  refine cons (opv (Ev.gtr_u64 (.t rfl) (.c (v := U64 0) rfl)) ?_)
  refine nil ?_
  refine pN ?_
  first | refine condD rfl (fun h0 => ?_) (fun h0 => ?_) | refine cond rfl (fun h0 => ?_) (fun h0 => ?_)
  · try simp only [Bool.and_eq_true, Bool.or_eq_true, Bool.or_eq_false_iff, Bool.and_eq_false_iff, Bool.not_eq_true', Bool.not_eq_false', decide_eq_true_eq, decide_eq_false_iff_not, Decidable.not_not] at h0
    have hkn : k < 2 := by
      rcases Nat.lt_or_ge k 2 with h | h
      · exact h
      · have e : k = 2 := by omega
        subst e
        simp [UInt64.lt_iff_toNat_lt] at h0 ht
        omega
    refine skip ?_
    refine pN ?_
    refine seq ?_
    refine block ?_
    refine region ?_
    refine cons (opv (Ev.move (.t rfl)) ?_)
    refine cons (opv (Ev.add_i (.t rfl) (.c (v := I 1) rfl) (fun _ => by omega)) ?_)
    refine cons (opv (Ev.assign (.t rfl)) ?_)
    refine nil ?_
    refine bN ?_
    refine pN ?_
    refine region ?_
    refine cons (opv (Ev.move (.t rfl)) ?_)
    refine cons (opv (Ev.shr_u64 (.t rfl) (.c rfl) (fun _ => by decide)) ?_)
    refine cons (opv (Ev.assign (.t rfl)) ?_)
    refine nil ?_
    refine pN ?_
    refine next (X := Nat × UInt64) (k + 1, shr64 t 8) ⟨?_, ?_⟩ ?_ (by repeat first | exact Sub.nil | refine Sub.cons rfl ?_) (by repeat first | exact List.Sublist.refl _ | apply List.Sublist.cons_cons | apply List.Sublist.cons)
    · try dsimp only
      omega
    · try dsimp only
      rw [toNat_shr64]; have e : 2 - k = (2 - (k + 1)) + 1 := by omega
      rw [e, Nat.pow_succ] at ht
      omega
    · try dsimp only
      first | omega | (simp; omega)
  · try simp only [Bool.and_eq_true, Bool.or_eq_true, Bool.or_eq_false_iff, Bool.and_eq_false_iff, Bool.not_eq_true', Bool.not_eq_false', decide_eq_true_eq, decide_eq_false_iff_not, Decidable.not_not] at h0
    have hkn : k = 2 := by
      rcases Nat.lt_or_ge k 2 with h | h
      · have e : 2 - k = (2 - (k + 1)) + 1 := by omega
        have hp : 0 < 256 ^ (2 - (k + 1)) := Nat.pow_pos (by decide)
        rw [e, Nat.pow_succ] at ht
        simp [UInt64.lt_iff_toNat_lt] at h0
        omega
      · omega
    subst hkn
    refine exit ?_
    refine pX ?_
    refine pX ?_
    refine bX ?_
    refine pN ?_
    refine seq ?_
    refine region ?_
    refine cons (opv (Ev.move (.t rfl)) ?_)
    refine cons (opv (Ev.assign (.t rfl)) ?_)
    refine nil ?_
    refine pN ?_
    refine ret ?_
    refine done rfl (.tmp rfl .nil) (retE ?_)
    first | rfl | (simp; done)

theorem en39 : Enters Try.prog 39 := Enters.mk' (by kernel_rfl)

theorem put_uint16_ok (u : Value) (b : List UInt8) (v : UInt16) (w : World) (hb : IsSl u8E w u b) (hl : b.length + 2 ≤ 140737488355328) :
    Calls Try.prog 14 #[u, U16 v] w (RetO w u8E (b ++ putB 2 v.toUInt64) 5) := by
  have hbl := hb.le
  refine enter0 34 Try.func14 rfl rfl (Nat.le_of_ble_eq_true rfl) ?_
  refine seq ?_
  refine region ?_
  refine cons (opv (Ev.assign (.c (v := (Go.Value.slice none 0 0)) rfl)) ?_)
  refine nil ?_
  refine pN ?_
  refine seq ?_
  refine region ?_
  refine cons (callv en39 .nil (fun w I => width_uint16_ok w) ?_)
  refine cons (opv (Ev.assign (.t rfl)) ?_)
  refine nil ?_
  refine pN ?_
  refine seq ?_
  refine region ?_
  refine cons (opv (Ev.move (.t rfl)) ?_)
  refine cons (opv (Ev.len Try.underlying22 (.t rfl) (by first | exact isSl_own (by repeat first | exact List.Mem.head _ | apply List.Mem.tail) | exact fun w I => IsSl.keep0 (by assumption) I.keeps)) ?_)
  refine cons (opv (Ev.move (.t rfl)) ?_)
  refine cons (opv (Ev.len Try.underlying22 (.t rfl) (by first | exact isSl_own (by repeat first | exact List.Mem.head _ | apply List.Mem.tail) | exact fun w I => IsSl.keep0 (by assumption) I.keeps)) ?_)
  refine cons (opv (Ev.move (.t rfl)) ?_)
  refine cons (opv (Ev.add_i (.t rfl) (.t rfl) (fun _ => by omega)) ?_)
  refine cons (makeSl (E := u8E) Try.underlying22 ty5 rfl zb5 (.t rfl) (.t rfl) ⟨by omega, by omega⟩ ⟨by omega, by omega⟩ (fun o1 => ?_))
  refine cons (opv (Ev.assign (.t rfl)) ?_)
  refine nil ?_
  refine pN ?_
  refine seq ?_
  refine region ?_
  refine cons (opv (Ev.move (.t rfl)) ?_)
  refine cons (opv (Ev.move (.t rfl)) ?_)
  refine cons (copyO (E := u8E) Try.underlying22 ty5 (.t rfl) (.t rfl) (by repeat first | exact Upd.head | apply Upd.tail) (fun w I => hb.keep0 I.keeps) ?_)
  refine nil ?_
  refine pN ?_
  refine seq ?_
  refine seq ?_
  refine region ?_
  refine cons (opv (Ev.move (.t rfl)) ?_)
  refine cons (opv (Ev.sub_i (.t rfl) (.c (v := I 1) rfl) (fun _ => by omega)) ?_)
  refine cons (opv (Ev.assign (.t rfl)) ?_)
  refine nil ?_
  refine pN ?_
  refine block ?_
  have e1 : (List.replicate (Int.toNat (b.length : Int)) u8E.zero) = List.replicate b.length (0 : UInt8) := by rw [Int.toNat_natCast]; rfl
  rw [e1]
  have e2 : b.take (List.replicate b.length (0 : UInt8)).length ++ (List.replicate b.length (0 : UInt8)).drop b.length = b := by simp
  rw [e2]
  refine loop (X := Int × OV × (List UInt8)) (fun x : Int × OV × (List UInt8) => (-1 ≤ x.1 ∧ x.1 ≤ 1) ∧ (x.2.2 ++ putB (x.1 + 1).toNat v.toUInt64 = b ++ putB 2 v.toUInt64)) (fun x : Int × OV × (List UInt8) => [(1, true, U16 v), (5, true, I x.1), (6, true, x.2.1.v)]) (fun x : Int × OV × (List UInt8) => [OwnS x.2.1.v u8E x.2.2 5]) (fun x : Int × OV × (List UInt8) => (x.1 + 1).toNat) (_, o1, b) ⟨?_, ?_⟩ (by repeat first | exact Sub.nil | refine Sub.cons rfl ?_) (by repeat first | exact List.Sublist.refl _ | apply List.Sublist.cons_cons | apply List.Sublist.cons) (fun x hx => ?_)
  · omega
  · rfl
  obtain ⟨i, o, xs⟩ := x
  obtain ⟨hi, hxs⟩ : (-1 ≤ i ∧ i ≤ 1) ∧ (xs ++ putB (i + 1).toNat v.toUInt64 = b ++ putB 2 v.toUInt64) := hx
  show Sat _ _ [(1, true, U16 v), (5, true, I i), (6, true, o.v)] [OwnS o.v u8E xs 5]
  refine seq ?_
  refine seq ?_
  refine region ?_
  refine cons (opv (Ev.move (.t rfl)) ?_)
  refine cons (opv (Ev.geq_i (.t rfl) (.c (v := I 0) rfl)) ?_)
  refine nil ?_
  refine pN ?_
  first | refine condD rfl (fun h0 => ?_) (fun h0 => ?_) | refine cond rfl (fun h0 => ?_) (fun h0 => ?_)
  · try simp only [Bool.and_eq_true, Bool.or_eq_true, Bool.or_eq_false_iff, Bool.and_eq_false_iff, Bool.not_eq_true', Bool.not_eq_false', decide_eq_true_eq, decide_eq_false_iff_not, Decidable.not_not] at h0
    have hlen : xs.length + (i + 1).toNat = b.length + 2 := by
      have := congrArg List.length hxs
      simpa [putB_length] using this
    refine skip ?_
    refine pN ?_
    refine seq ?_
    refine block ?_
    refine region ?_
    refine cons (opv (Ev.move (.t rfl)) ?_)
    refine cons (opv (Ev.move (.t rfl)) ?_)
    refine cons (opv (Ev.conv_u16_u64 Try.underlying23 Try.underlying27 (.t rfl)) ?_)
    refine cons (opv (Ev.move (.t rfl)) ?_)
    refine cons (opv (Ev.mul_i (.c (v := I 8) rfl) (.t rfl) (fun _ => by omega)) ?_)
    refine cons (opv (Ev.shr_u64 (.t rfl) (.t rfl) (fun _ => by omega)) ?_)
    refine cons (opv (Ev.conv_u64_u8 Try.underlying5 Try.underlying23 (.t rfl)) ?_)
    refine cons (buildSlice (E := u8E) Try.underlying22 ty5 z5 (.cons (.t rfl) .nil) rfl rfl (fun v1 => ?_))
    refine cons (append (E := u8E) Try.underlying22 ty5 rfl zb5 zs5 (.t rfl) (.t rfl) (fun _ => by repeat first | exact Upd.head | apply Upd.tail) (by first | exact isSl_own (by repeat first | exact List.Mem.head _ | apply List.Mem.tail) | exact fun w I => IsSl.keep0 (by assumption) I.keeps) (⟨by (show _ ≤ 9223372036854775807); simp; omega, by simp; omega⟩) (fun v2 => ?_))
    refine cons (opv (Ev.assign (.t rfl)) ?_)
    refine nil ?_
    refine bN ?_
    refine pN ?_
    refine region ?_
    refine cons (opv (Ev.move (.t rfl)) ?_)
    refine cons (opv (Ev.sub_i (.t rfl) (.c (v := I 1) rfl) (fun _ => by omega)) ?_)
    refine cons (opv (Ev.assign (.t rfl)) ?_)
    refine nil ?_
    refine pN ?_
    refine next (X := Int × OV × (List UInt8)) (i - 1, _, _) ⟨?_, ?_⟩ ?_ (by repeat first | exact Sub.nil | refine Sub.cons rfl ?_) (by repeat first | exact List.Sublist.refl _ | apply List.Sublist.cons_cons | apply List.Sublist.cons)
    · try dsimp only
      omega
    · try dsimp only
      rw [← hxs]
      have e : (i + 1).toNat = (i - 1 + 1).toNat + 1 := by omega
      have e3 : (8 * i).toNat = 8 * (i - 1 + 1).toNat := by omega
      rw [e, List.append_assoc, List.append_cancel_left_eq, e3]
      rfl
    · try dsimp only
      omega
  · try simp only [Bool.and_eq_true, Bool.or_eq_true, Bool.or_eq_false_iff, Bool.and_eq_false_iff, Bool.not_eq_true', Bool.not_eq_false', decide_eq_true_eq, decide_eq_false_iff_not, Decidable.not_not] at h0
    have hi1 : (i + 1).toNat = 0 := by omega
    rw [hi1] at hxs
    simp only [putB, List.append_nil] at hxs
    subst hxs
    refine exit ?_
    refine pX ?_
    refine pX ?_
    refine bX ?_
    refine pN ?_
    refine seq ?_
    refine region ?_
    refine cons (opv (Ev.move (.t rfl)) ?_)
    refine cons (opv (Ev.assign (.t rfl)) ?_)
    refine nil ?_
    refine pN ?_
    refine ret ?_
    refine done rfl (.tmp rfl .nil) (retOE (by repeat first | exact List.Mem.head _ | apply List.Mem.tail) ?_)
    rfl

theorem width_uint32_ok (w : World) : Calls Try.prog 40 #[] w (RetV w (I 4)) := by
  refine enter0 13 Try.func40 rfl rfl (Nat.le_of_ble_eq_true rfl) ?_
  refine seq ?_
  refine region ?_
  refine cons (opv (Ev.assign (.c (v := I 0) rfl)) ?_)
  refine nil ?_
  refine pN ?_
  refine seq ?_
  refine region ?_
  refine cons (opv (Ev.assign (.c (v := I 0) rfl)) ?_)
  refine nil ?_
  refine pN ?_
  refine seq ?_
  refine seq ?_
  refine region ?_
  refine cons (opv (Ev.conv_i_u32 Try.underlying29 Try.underlying3 (.c (v := I 0) rfl)) ?_)
  refine cons (opv (Ev.compl_u32 (.t rfl)) ?_)
  refine cons (opv (Ev.conv_u32_u64 Try.underlying23 Try.underlying29 (.t rfl)) ?_)
  refine cons (opv (Ev.assign (.t rfl)) ?_)
  refine nil ?_
  refine pN ?_
  refine block ?_
  refine loop (X := Nat × UInt64) (fun x : Nat × UInt64 => (x.1 ≤ 4) ∧ (x.2.toNat + 1 = 256 ^ (4 - x.1))) (fun x : Nat × UInt64 => [(0, true, I 0), (1, true, I x.1), (2, true, U64 x.2)]) (fun x : Nat × UInt64 => []) (fun x : Nat × UInt64 => 4 - x.1) (0, _) ⟨?_, ?_⟩ (by repeat first | exact Sub.nil | refine Sub.cons rfl ?_) (by repeat first | exact List.Sublist.refl _ | apply List.Sublist.cons_cons | apply List.Sublist.cons) (fun x hx => ?_)
  · omega
  · decide
  obtain ⟨k, t⟩ := x
  obtain ⟨hk, ht⟩ : (k ≤ 4) ∧ (t.toNat + 1 = 256 ^ (4 - k)) := hx
  show Sat _ _ [(0, true, I 0), (1, true, I k), (2, true, U64 t)] []
  refine seq ?_
  refine seq ?_
  refine region ?_
  refine cons (opv (Ev.move (.t rfl)) ?_)
  refine cons (opv (Ev.gtr_u64 (.t rfl) (.c (v := U64 0) rfl)) ?_)
  refine nil ?_
  refine pN ?_
  first | refine condD rfl (fun h0 => ?_) (fun h0 => ?_) | refine cond rfl (fun h0 => ?_) (fun h0 => ?_)
  · try simp only [Bool.and_eq_true, Bool.or_eq_true, Bool.or_eq_false_iff, Bool.and_eq_false_iff, Bool.not_eq_true', Bool.not_eq_false', decide_eq_true_eq, decide_eq_false_iff_not, Decidable.not_not] at h0
    have hkn : k < 4 := by
      rcases Nat.lt_or_ge k 4 with h | h
      · exact h
      · have e : k = 4 := by omega
        subst e
        simp [UInt64.lt_iff_toNat_lt] at h0 ht
        omega
    refine skip ?_
    refine pN ?_
    refine seq ?_
    refine block ?_
    refine region ?_
    refine cons (opv (Ev.move (.t rfl)) ?_)
    refine cons (opv (Ev.add_i (.t rfl) (.c (v := I 1) rfl) (fun _ => by omega)) ?_)
    refine cons (opv (Ev.assign (.t rfl)) ?_)
    refine nil ?_
    refine bN ?_
    refine pN ?_
    refine region ?_
    refine cons (opv (Ev.move (.t rfl)) ?_)
    refine cons (opv (Ev.shr_u64 (.t rfl) (.c rfl) (fun _ => by decide)) ?_)
    refine cons (opv (Ev.assign (.t rfl)) ?_)
    refine nil ?_
    refine pN ?_
    refine next (X := Nat × UInt64) (k + 1, shr64 t 8) ⟨?_, ?_⟩ ?_ (by repeat first | exact Sub.nil | refine Sub.cons rfl ?_) (by repeat first | exact List.Sublist.refl _ | apply List.Sublist.cons_cons | apply List.Sublist.cons)
    · try dsimp only
      omega
    · try dsimp only
      rw [toNat_shr64]; have e : 4 - k = (4 - (k + 1)) + 1 := by omega
      rw [e, Nat.pow_succ] at ht
      omega
    · try dsimp only
      first | omega | (simp; omega)
  · try simp only [Bool.and_eq_true, Bool.or_eq_true, Bool.or_eq_false_iff, Bool.and_eq_false_iff, Bool.not_eq_true', Bool.not_eq_false', decide_eq_true_eq, decide_eq_false_iff_not, Decidable.not_not] at h0
    have hkn : k = 4 := by
      rcases Nat.lt_or_ge k 4 with h | h
      · have e : 4 - k = (4 - (k + 1)) + 1 := by omega
        have hp : 0 < 256 ^ (4 - (k + 1)) := Nat.pow_pos (by decide)
        rw [e, Nat.pow_succ] at ht
        simp [UInt64.lt_iff_toNat_lt] at h0
        omega
      · omega
    subst hkn
    refine exit ?_
    refine pX ?_
    refine pX ?_
    refine bX ?_
    refine pN ?_
    refine seq ?_
    refine region ?_
    refine cons (opv (Ev.move (.t rfl)) ?_)
    refine cons (opv (Ev.assign (.t rfl)) ?_)
    refine nil ?_
    refine pN ?_
    refine ret ?_
    refine done rfl (.tmp rfl .nil) (retE ?_)
    first | rfl | (simp; done)

theorem en40 : Enters Try.prog 40 := Enters.mk' (by kernel_rfl)

theorem put_uint32_ok (u : Value) (b : List UInt8) (v : UInt32) (w : World) (hb : IsSl u8E w u b) (hl : b.length + 4 ≤ 140737488355328) :
    Calls Try.prog 15 #[u, U32 v] w (RetO w u8E (b ++ putB 4 v.toUInt64) 5) := by
  have hbl := hb.le
  refine enter0 34 Try.func15 rfl rfl (Nat.le_of_ble_eq_true rfl) ?_
  refine seq ?_
  refine region ?_
  refine cons (opv (Ev.assign (.c (v := (Go.Value.slice none 0 0)) rfl)) ?_)
  refine nil ?_
  refine pN ?_
  refine seq ?_
  refine region ?_
  refine cons (callv en40 .nil (fun w I => width_uint32_ok w) ?_)
  refine cons (opv (Ev.assign (.t rfl)) ?_)
  refine nil ?_
  refine pN ?_
  refine seq ?_
  refine region ?_
  refine cons (opv (Ev.move (.t rfl)) ?_)
  refine cons (opv (Ev.len Try.underlying22 (.t rfl) (by first | exact isSl_own (by repeat first | exact List.Mem.head _ | apply List.Mem.tail) | exact fun w I => IsSl.keep0 (by assumption) I.keeps)) ?_)
  refine cons (opv (Ev.move (.t rfl)) ?_)
  refine cons (opv (Ev.len Try.underlying22 (.t rfl) (by first | exact isSl_own (by repeat first | exact List.Mem.head _ | apply List.Mem.tail) | exact fun w I => IsSl.keep0 (by assumption) I.keeps)) ?_)
  refine cons (opv (Ev.move (.t rfl)) ?_)
  refine cons (opv (Ev.add_i (.t rfl) (.t rfl) (fun _ => by omega)) ?_)
  refine cons (makeSl (E := u8E) Try.underlying22 ty5 rfl zb5 (.t rfl) (.t rfl) ⟨by omega, by omega⟩ ⟨by omega, by omega⟩ (fun o1 => ?_))
  refine cons (opv (Ev.assign (.t rfl)) ?_)
  refine nil ?_
  refine pN ?_
  refine seq ?_
  refine region ?_
  refine cons (opv (Ev.move (.t rfl)) ?_)
  refine cons (opv (Ev.move (.t rfl)) ?_)
  refine cons (copyO (E := u8E) Try.underlying22 ty5 (.t rfl) (.t rfl) (by repeat first | exact Upd.head | apply Upd.tail) (fun w I => hb.keep0 I.keeps) ?_)
  refine nil ?_
  refine pN ?_
  refine seq ?_
  refine seq ?_
  refine region ?_
  refine cons (opv (Ev.move (.t rfl)) ?_)
  refine cons (opv (Ev.sub_i (.t rfl) (.c (v := I 1) rfl) (fun _ => by omega)) ?_)
  refine cons (opv (Ev.assign (.t rfl)) ?_)
  refine nil ?_
  refine pN ?_
  refine block ?_
  have e1 : (List.replicate (Int.toNat (b.length : Int)) u8E.zero) = List.replicate b.length (0 : UInt8) := by rw [Int.toNat_natCast]; rfl
  rw [e1]
  have e2 : b.take (List.replicate b.length (0 : UInt8)).length ++ (List.replicate b.length (0 : UInt8)).drop b.length = b := by simp
  rw [e2]
  refine loop (X := Int × OV × (List UInt8)) (fun x : Int × OV × (List UInt8) => (-1 ≤ x.1 ∧ x.1 ≤ 3) ∧ (x.2.2 ++ putB (x.1 + 1).toNat v.toUInt64 = b ++ putB 4 v.toUInt64)) (fun x : Int × OV × (List UInt8) => [(1, true, U32 v), (5, true, I x.1), (6, true, x.2.1.v)]) (fun x : Int × OV × (List UInt8) => [OwnS x.2.1.v u8E x.2.2 5]) (fun x : Int × OV × (List UInt8) => (x.1 + 1).toNat) (_, o1, b) ⟨?_, ?_⟩ (by repeat first | exact Sub.nil | refine Sub.cons rfl ?_) (by repeat first | exact List.Sublist.refl _ | apply List.Sublist.cons_cons | apply List.Sublist.cons) (fun x hx => ?_)
  · omega
  · rfl
  obtain ⟨i, o, xs⟩ := x
  obtain ⟨hi, hxs⟩ : (-1 ≤ i ∧ i ≤ 3) ∧ (xs ++ putB (i + 1).toNat v.toUInt64 = b ++ putB 4 v.toUInt64) := hx
  show Sat _ _ [(1, true, U32 v), (5, true, I i), (6, true, o.v)] [OwnS o.v u8E xs 5]
  refine seq ?_
  refine seq ?_
  refine region ?_
  refine cons (opv (Ev.move (.t rfl)) ?_)
  refine cons (opv (Ev.geq_i (.t rfl) (.c (v := I 0) rfl)) ?_)
  refine nil ?_
  refine pN ?_
  first | refine condD rfl (fun h0 => ?_) (fun h0 => ?_) | refine cond rfl (fun h0 => ?_) (fun h0 => ?_)
  · try simp only [Bool.and_eq_true, Bool.or_eq_true, Bool.or_eq_false_iff, Bool.and_eq_false_iff, Bool.not_eq_true', Bool.not_eq_false', decide_eq_true_eq, decide_eq_false_iff_not, Decidable.not_not] at h0
    have hlen : xs.length + (i + 1).toNat = b.length + 4 := by
      have := congrArg List.length hxs
      simpa [putB_length] using this
    refine skip ?_
    refine pN ?_
    refine seq ?_
    refine block ?_
    refine region ?_
    refine cons (opv (Ev.move (.t rfl)) ?_)
    refine cons (opv (Ev.move (.t rfl)) ?_)
    refine cons (opv (Ev.conv_u32_u64 Try.underlying23 Try.underlying29 (.t rfl)) ?_)
    refine cons (opv (Ev.move (.t rfl)) ?_)
    refine cons (opv (Ev.mul_i (.c (v := I 8) rfl) (.t rfl) (fun _ => by omega)) ?_)
    refine cons (opv (Ev.shr_u64 (.t rfl) (.t rfl) (fun _ => by omega)) ?_)
    refine cons (opv (Ev.conv_u64_u8 Try.underlying5 Try.underlying23 (.t rfl)) ?_)
    refine cons (buildSlice (E := u8E) Try.underlying22 ty5 z5 (.cons (.t rfl) .nil) rfl rfl (fun v1 => ?_))
    refine cons (append (E := u8E) Try.underlying22 ty5 rfl zb5 zs5 (.t rfl) (.t rfl) (fun _ => by repeat first | exact Upd.head | apply Upd.tail) (by first | exact isSl_own (by repeat first | exact List.Mem.head _ | apply List.Mem.tail) | exact fun w I => IsSl.keep0 (by assumption) I.keeps) (⟨by (show _ ≤ 9223372036854775807); simp; omega, by simp; omega⟩) (fun v2 => ?_))
    refine cons (opv (Ev.assign (.t rfl)) ?_)
    refine nil ?_
    refine bN ?_
    refine pN ?_
    refine region ?_
    refine cons (opv (Ev.move (.t rfl)) ?_)
    refine cons (opv (Ev.sub_i (.t rfl) (.c (v := I 1) rfl) (fun _ => by omega)) ?_)
    refine cons (opv (Ev.assign (.t rfl)) ?_)
    refine nil ?_
    refine pN ?_
    refine next (X := Int × OV × (List UInt8)) (i - 1, _, _) ⟨?_, ?_⟩ ?_ (by repeat first | exact Sub.nil | refine Sub.cons rfl ?_) (by repeat first | exact List.Sublist.refl _ | apply List.Sublist.cons_cons | apply List.Sublist.cons)
    · try dsimp only
      omega
    · try dsimp only
      rw [← hxs]
      have e : (i + 1).toNat = (i - 1 + 1).toNat + 1 := by omega
      have e3 : (8 * i).toNat = 8 * (i - 1 + 1).toNat := by omega
      rw [e, List.append_assoc, List.append_cancel_left_eq, e3]
      rfl
    · try dsimp only
      omega
  · try simp only [Bool.and_eq_true, Bool.or_eq_true, Bool.or_eq_false_iff, Bool.and_eq_false_iff, Bool.not_eq_true', Bool.not_eq_false', decide_eq_true_eq, decide_eq_false_iff_not, Decidable.not_not] at h0
    have hi1 : (i + 1).toNat = 0 := by omega
    rw [hi1] at hxs
    simp only [putB, List.append_nil] at hxs
    subst hxs
    refine exit ?_
    refine pX ?_
    refine pX ?_
    refine bX ?_
    refine pN ?_
    refine seq ?_
    refine region ?_
    refine cons (opv (Ev.move (.t rfl)) ?_)
    refine cons (opv (Ev.assign (.t rfl)) ?_)
    refine nil ?_
    refine pN ?_
    refine ret ?_
    refine done rfl (.tmp rfl .nil) (retOE (by repeat first | exact List.Mem.head _ | apply List.Mem.tail) ?_)
    rfl

theorem width_uint64_ok (w : World) : Calls Try.prog 41 #[] w (RetV w (I 8)) := by
  refine enter0 12 Try.func41 rfl rfl (Nat.le_of_ble_eq_true rfl) ?_
  refine seq ?_
  refine region ?_
  refine cons (opv (Ev.assign (.c (v := I 0) rfl)) ?_)
  refine nil ?_
  refine pN ?_
  refine seq ?_
  refine region ?_
  refine cons (opv (Ev.assign (.c (v := I 0) rfl)) ?_)
  refine nil ?_
  refine pN ?_
  refine seq ?_
  refine seq ?_
  refine region ?_
  refine cons (opv (Ev.conv_i_u64 Try.underlying23 Try.underlying3 (.c (v := I 0) rfl)) ?_)
  refine cons (opv (Ev.compl_u64 (.t rfl)) ?_)
  refine cons (opv (Ev.assign (.t rfl)) ?_)
  refine nil ?_
  refine pN ?_
  refine block ?_
  refine loop (X := Nat × UInt64) (fun x : Nat × UInt64 => (x.1 ≤ 8) ∧ (x.2.toNat + 1 = 256 ^ (8 - x.1))) (fun x : Nat × UInt64 => [(0, true, I 0), (1, true, I x.1), (2, true, U64 x.2)]) (fun x : Nat × UInt64 => []) (fun x : Nat × UInt64 => 8 - x.1) (0, _) ⟨?_, ?_⟩ (by repeat first | exact Sub.nil | refine Sub.cons rfl ?_) (by repeat first | exact List.Sublist.refl _ | apply List.Sublist.cons_cons | apply List.Sublist.cons) (fun x hx => ?_)
  · omega
  · decide
  obtain ⟨k, t⟩ := x
  obtain ⟨hk, ht⟩ : (k ≤ 8) ∧ (t.toNat + 1 = 256 ^ (8 - k)) := hx
  show Sat _ _ [(0, true, I 0), (1, true, I k), (2, true, U64 t)] []
  refine seq ?_
  refine seq ?_
  refine region ?_
  refine cons (opv (Ev.move (.t rfl)) ?_)
  refine cons (opv (Ev.gtr_u64 (.t rfl) (.c (v := U64 0) rfl)) ?_)
  refine nil ?_
  refine pN ?_
  first | refine condD rfl (fun h0 => ?_) (fun h0 => ?_) | refine cond rfl (fun h0 => ?_) (fun h0 => ?_)
  · try simp only [Bool.and_eq_true, Bool.or_eq_true, Bool.or_eq_false_iff, Bool.and_eq_false_iff, Bool.not_eq_true', Bool.not_eq_false', decide_eq_true_eq, decide_eq_false_iff_not, Decidable.not_not] at h0
    have hkn : k < 8 := by
      rcases Nat.lt_or_ge k 8 with h | h
      · exact h
      · have e : k = 8 := by omega
        subst e
        simp [UInt64.lt_iff_toNat_lt] at h0 ht
        omega
    refine skip ?_
    refine pN ?_
    refine seq ?_
    refine block ?_
    refine region ?_
    refine cons (opv (Ev.move (.t rfl)) ?_)
    refine cons (opv (Ev.add_i (.t rfl) (.c (v := I 1) rfl) (fun _ => by omega)) ?_)
    refine cons (opv (Ev.assign (.t rfl)) ?_)
    refine nil ?_
    refine bN ?_
    refine pN ?_
    refine region ?_
    refine cons (opv (Ev.move (.t rfl)) ?_)
    refine cons (opv (Ev.shr_u64 (.t rfl) (.c rfl) (fun _ => by decide)) ?_)
    refine cons (opv (Ev.assign (.t rfl)) ?_)
    refine nil ?_
    refine pN ?_
    refine next (X := Nat × UInt64) (k + 1, shr64 t 8) ⟨?_, ?_⟩ ?_ (by repeat first | exact Sub.nil | refine Sub.cons rfl ?_) (by repeat first | exact List.Sublist.refl _ | apply List.Sublist.cons_cons | apply List.Sublist.cons)
    · try dsimp only
      omega
    · try dsimp only
      rw [toNat_shr64]; have e : 8 - k = (8 - (k + 1)) + 1 := by omega
      rw [e, Nat.pow_succ] at ht
      omega
    · try dsimp only
      first | omega | (simp; omega)
  · try simp only [Bool.and_eq_true, Bool.or_eq_true, Bool.or_eq_false_iff, Bool.and_eq_false_iff, Bool.not_eq_true', Bool.not_eq_false', decide_eq_true_eq, decide_eq_false_iff_not, Decidable.not_not] at h0
    have hkn : k = 8 := by
      rcases Nat.lt_or_ge k 8 with h | h
      · have e : 8 - k = (8 - (k + 1)) + 1 := by omega
        have hp : 0 < 256 ^ (8 - (k + 1)) := Nat.pow_pos (by decide)
        rw [e, Nat.pow_succ] at ht
        simp [UInt64.lt_iff_toNat_lt] at h0
        omega
      · omega
    subst hkn
    refine exit ?_
    refine pX ?_
    refine pX ?_
    refine bX ?_
    refine pN ?_
    refine seq ?_
    refine region ?_
    refine cons (opv (Ev.move (.t rfl)) ?_)
    refine cons (opv (Ev.assign (.t rfl)) ?_)
    refine nil ?_
    refine pN ?_
    refine ret ?_
    refine done rfl (.tmp rfl .nil) (retE ?_)
    first | rfl | (simp; done)

theorem en41 : Enters Try.prog 41 := Enters.mk' (by kernel_rfl)

theorem put_uint64_ok (u : Value) (b : List UInt8) (v : UInt64) (w : World) (hb : IsSl u8E w u b) (hl : b.length + 8 ≤ 140737488355328) :
    Calls Try.prog 16 #[u, U64 v] w (RetO w u8E (b ++ putB 8 v) 5) := by
  have hbl := hb.le
  refine enter0 33 Try.func16 rfl rfl (Nat.le_of_ble_eq_true rfl) ?_
  refine seq ?_
  refine region ?_
  refine cons (opv (Ev.assign (.c (v := (Go.Value.slice none 0 0)) rfl)) ?_)
  refine nil ?_
  refine pN ?_
  refine seq ?_
  refine region ?_
  refine cons (callv en41 .nil (fun w I => width_uint64_ok w) ?_)
  refine cons (opv (Ev.assign (.t rfl)) ?_)
  refine nil ?_
  refine pN ?_
  refine seq ?_
  refine region ?_
  refine cons (opv (Ev.move (.t rfl)) ?_)
  refine cons (opv (Ev.len Try.underlying22 (.t rfl) (by first | exact isSl_own (by repeat first | exact List.Mem.head _ | apply List.Mem.tail) | exact fun w I => IsSl.keep0 (by assumption) I.keeps)) ?_)
  refine cons (opv (Ev.move (.t rfl)) ?_)
  refine cons (opv (Ev.len Try.underlying22 (.t rfl) (by first | exact isSl_own (by repeat first | exact List.Mem.head _ | apply List.Mem.tail) | exact fun w I => IsSl.keep0 (by assumption) I.keeps)) ?_)
  refine cons (opv (Ev.move (.t rfl)) ?_)
  refine cons (opv (Ev.add_i (.t rfl) (.t rfl) (fun _ => by omega)) ?_)
  refine cons (makeSl (E := u8E) Try.underlying22 ty5 rfl zb5 (.t rfl) (.t rfl) ⟨by omega, by omega⟩ ⟨by omega, by omega⟩ (fun o1 => ?_))
  refine cons (opv (Ev.assign (.t rfl)) ?_)
  refine nil ?_
  refine pN ?_
  refine seq ?_
  refine region ?_
  refine cons (opv (Ev.move (.t rfl)) ?_)
  refine cons (opv (Ev.move (.t rfl)) ?_)
  refine cons (copyO (E := u8E) Try.underlying22 ty5 (.t rfl) (.t rfl) (by repeat first | exact Upd.head | apply Upd.tail) (fun w I => hb.keep0 I.keeps) ?_)
  refine nil ?_
  refine pN ?_
  refine seq ?_
  refine seq ?_
  refine region ?_
  refine cons (opv (Ev.move (.t rfl)) ?_)
  refine cons (opv (Ev.sub_i (.t rfl) (.c (v := I 1) rfl) (fun _ => by omega)) ?_)
  refine cons (opv (Ev.assign (.t rfl)) ?_)
  refine nil ?_
  refine pN ?_
  refine block ?_
  have e1 : (List.replicate (Int.toNat (b.length : Int)) u8E.zero) = List.replicate b.length (0 : UInt8) := by rw [Int.toNat_natCast]; rfl
  rw [e1]
  have e2 : b.take (List.replicate b.length (0 : UInt8)).length ++ (List.replicate b.length (0 : UInt8)).drop b.length = b := by simp
  rw [e2]
  refine loop (X := Int × OV × (List UInt8)) (fun x : Int × OV × (List UInt8) => (-1 ≤ x.1 ∧ x.1 ≤ 7) ∧ (x.2.2 ++ putB (x.1 + 1).toNat v = b ++ putB 8 v)) (fun x : Int × OV × (List UInt8) => [(1, true, U64 v), (5, true, I x.1), (6, true, x.2.1.v)]) (fun x : Int × OV × (List UInt8) => [OwnS x.2.1.v u8E x.2.2 5]) (fun x : Int × OV × (List UInt8) => (x.1 + 1).toNat) (_, o1, b) ⟨?_, ?_⟩ (by repeat first | exact Sub.nil | refine Sub.cons rfl ?_) (by repeat first | exact List.Sublist.refl _ | apply List.Sublist.cons_cons | apply List.Sublist.cons) (fun x hx => ?_)
  · omega
  · rfl
  obtain ⟨i, o, xs⟩ := x
  obtain ⟨hi, hxs⟩ : (-1 ≤ i ∧ i ≤ 7) ∧ (xs ++ putB (i + 1).toNat v = b ++ putB 8 v) := hx
  show Sat _ _ [(1, true, U64 v), (5, true, I i), (6, true, o.v)] [OwnS o.v u8E xs 5]
  refine seq ?_
  refine seq ?_
  refine region ?_
  refine cons (opv (Ev.move (.t rfl)) ?_)
  refine cons (opv (Ev.geq_i (.t rfl) (.c (v := I 0) rfl)) ?_)
  refine nil ?_
  refine pN ?_
  first | refine condD rfl (fun h0 => ?_) (fun h0 => ?_) | refine cond rfl (fun h0 => ?_) (fun h0 => ?_)
  · try simp only [Bool.and_eq_true, Bool.or_eq_true, Bool.or_eq_false_iff, Bool.and_eq_false_iff, Bool.not_eq_true', Bool.not_eq_false', decide_eq_true_eq, decide_eq_false_iff_not, Decidable.not_not] at h0
    have hlen : xs.length + (i + 1).toNat = b.length + 8 := by
      have := congrArg List.length hxs
      simpa [putB_length] using this
    refine skip ?_
    refine pN ?_
    refine seq ?_
    refine block ?_
    refine region ?_
    refine cons (opv (Ev.move (.t rfl)) ?_)
    refine cons (opv (Ev.move (.t rfl)) ?_)
    refine cons (opv (Ev.move (.t rfl)) ?_)
    refine cons (opv (Ev.mul_i (.c (v := I 8) rfl) (.t rfl) (fun _ => by omega)) ?_)
    refine cons (opv (Ev.shr_u64 (.t rfl) (.t rfl) (fun _ => by omega)) ?_)
    refine cons (opv (Ev.conv_u64_u8 Try.underlying5 Try.underlying23 (.t rfl)) ?_)
    refine cons (buildSlice (E := u8E) Try.underlying22 ty5 z5 (.cons (.t rfl) .nil) rfl rfl (fun v1 => ?_))
    refine cons (append (E := u8E) Try.underlying22 ty5 rfl zb5 zs5 (.t rfl) (.t rfl) (fun _ => by repeat first | exact Upd.head | apply Upd.tail) (by first | exact isSl_own (by repeat first | exact List.Mem.head _ | apply List.Mem.tail) | exact fun w I => IsSl.keep0 (by assumption) I.keeps) (⟨by (show _ ≤ 9223372036854775807); first | omega | (simp; omega), by first | omega | (simp; omega)⟩) (fun v2 => ?_))
    refine cons (opv (Ev.assign (.t rfl)) ?_)
    refine nil ?_
    refine bN ?_
    refine pN ?_
    refine region ?_
    refine cons (opv (Ev.move (.t rfl)) ?_)
    refine cons (opv (Ev.sub_i (.t rfl) (.c (v := I 1) rfl) (fun _ => by omega)) ?_)
    refine cons (opv (Ev.assign (.t rfl)) ?_)
    refine nil ?_
    refine pN ?_
    refine next (X := Int × OV × (List UInt8)) (i - 1, _, _) ⟨?_, ?_⟩ ?_ (by repeat first | exact Sub.nil | refine Sub.cons rfl ?_) (by repeat first | exact List.Sublist.refl _ | apply List.Sublist.cons_cons | apply List.Sublist.cons)
    · try dsimp only
      omega
    · try dsimp only
      rw [← hxs]
      have e : (i + 1).toNat = (i - 1 + 1).toNat + 1 := by omega
      have e3 : (8 * i).toNat = 8 * (i - 1 + 1).toNat := by omega
      rw [e, List.append_assoc, List.append_cancel_left_eq, e3]
      rfl
    · try dsimp only
      omega
  · try simp only [Bool.and_eq_true, Bool.or_eq_true, Bool.or_eq_false_iff, Bool.and_eq_false_iff, Bool.not_eq_true', Bool.not_eq_false', decide_eq_true_eq, decide_eq_false_iff_not, Decidable.not_not] at h0
    have hi1 : (i + 1).toNat = 0 := by omega
    rw [hi1] at hxs
    simp only [putB, List.append_nil] at hxs
    subst hxs
    refine exit ?_
    refine pX ?_
    refine pX ?_
    refine bX ?_
    refine pN ?_
    refine seq ?_
    refine region ?_
    refine cons (opv (Ev.move (.t rfl)) ?_)
    refine cons (opv (Ev.assign (.t rfl)) ?_)
    refine nil ?_
    refine pN ?_
    refine ret ?_
    refine done rfl (.tmp rfl .nil) (retOE (by repeat first | exact List.Mem.head _ | apply List.Mem.tail) ?_)
    rfl

theorem width_own_ok (w : World) : Calls Try.prog 42 #[] w (RetV w (I 2)) := by
  refine enter0 13 Try.func42 rfl rfl (Nat.le_of_ble_eq_true rfl) ?_
  refine seq ?_
  refine region ?_
  refine cons (opv (Ev.assign (.c (v := I 0) rfl)) ?_)
  refine nil ?_
  refine pN ?_
  refine seq ?_
  refine region ?_
  refine cons (opv (Ev.assign (.c (v := I 0) rfl)) ?_)
  refine nil ?_
  refine pN ?_
  refine seq ?_
  refine seq ?_
  refine region ?_
  refine cons (opv (Ev.conv_i_u16 Try.underlying32 Try.underlying3 (.c (v := I 0) rfl)) ?_)
  refine cons (opv (Ev.compl_u16 (.t rfl)) ?_)
  refine cons (opv (Ev.conv_u16_u64 Try.underlying23 Try.underlying32 (.t rfl)) ?_)
  refine cons (opv (Ev.assign (.t rfl)) ?_)
  refine nil ?_
  refine pN ?_
  refine block ?_
  refine loop (X := Nat × UInt64) (fun x : Nat × UInt64 => (x.1 ≤ 2) ∧ (x.2.toNat + 1 = 256 ^ (2 - x.1))) (fun x : Nat × UInt64 => [(0, true, I 0), (1, true, I x.1), (2, true, U64 x.2)]) (fun x : Nat × UInt64 => []) (fun x : Nat × UInt64 => 2 - x.1) (0, _) ⟨?_, ?_⟩ (by repeat first | exact Sub.nil | refine Sub.cons rfl ?_) (by repeat first | exact List.Sublist.refl _ | apply List.Sublist.cons_cons | apply List.Sublist.cons) (fun x hx => ?_)
  · omega
  · decide
  obtain ⟨k, t⟩ := x
  obtain ⟨hk, ht⟩ : (k ≤ 2) ∧ (t.toNat + 1 = 256 ^ (2 - k)) := hx
  show Sat _ _ [(0, true, I 0), (1, true, I k), (2, true, U64 t)] []
  refine seq ?_
  refine seq ?_
  refine region ?_
  refine cons (opv (Ev.move (.t rfl)) ?_)
  refine cons (opv (Ev.gtr_u64 (.t rfl) (.c (v := U64 0) rfl)) ?_)
  refine nil ?_
  refine pN ?_
  first | refine condD rfl (fun h0 => ?_) (fun h0 => ?_) | refine cond rfl (fun h0 => ?_) (fun h0 => ?_)
  · try simp only [Bool.and_eq_true, Bool.or_eq_true, Bool.or_eq_false_iff, Bool.and_eq_false_iff, Bool.not_eq_true', Bool.not_eq_false', decide_eq_true_eq, decide_eq_false_iff_not, Decidable.not_not] at h0
    have hkn : k < 2 := by
      rcases Nat.lt_or_ge k 2 with h | h
      · exact h
      · have e : k = 2 := by omega
        subst e
        simp [UInt64.lt_iff_toNat_lt] at h0 ht
        omega
    refine skip ?_
    refine pN ?_
    refine seq ?_
    refine block ?_
    refine region ?_
    refine cons (opv (Ev.move (.t rfl)) ?_)
    refine cons (opv (Ev.add_i (.t rfl) (.c (v := I 1) rfl) (fun _ => by omega)) ?_)
    refine cons (opv (Ev.assign (.t rfl)) ?_)
    refine nil ?_
    refine bN ?_
    refine pN ?_
    refine region ?_
    refine cons (opv (Ev.move (.t rfl)) ?_)
    refine cons (opv (Ev.shr_u64 (.t rfl) (.c rfl) (fun _ => by decide)) ?_)
    refine cons (opv (Ev.assign (.t rfl)) ?_)
    refine nil ?_
    refine pN ?_
    refine next (X := Nat × UInt64) (k + 1, shr64 t 8) ⟨?_, ?_⟩ ?_ (by repeat first | exact Sub.nil | refine Sub.cons rfl ?_) (by repeat first | exact List.Sublist.refl _ | apply List.Sublist.cons_cons | apply List.Sublist.cons)
    · try dsimp only
      omega
    · try dsimp only
      rw [toNat_shr64]; have e : 2 - k = (2 - (k + 1)) + 1 := by omega
      rw [e, Nat.pow_succ] at ht
      omega
    · try dsimp only
      first | omega | (simp; omega)
  · try simp only [Bool.and_eq_true, Bool.or_eq_true, Bool.or_eq_false_iff, Bool.and_eq_false_iff, Bool.not_eq_true', Bool.not_eq_false', decide_eq_true_eq, decide_eq_false_iff_not, Decidable.not_not] at h0
    have hkn : k = 2 := by
      rcases Nat.lt_or_ge k 2 with h | h
      · have e : 2 - k = (2 - (k + 1)) + 1 := by omega
        have hp : 0 < 256 ^ (2 - (k + 1)) := Nat.pow_pos (by decide)
        rw [e, Nat.pow_succ] at ht
        simp [UInt64.lt_iff_toNat_lt] at h0
        omega
      · omega
    subst hkn
    refine exit ?_
    refine pX ?_
    refine pX ?_
    refine bX ?_
    refine pN ?_
    refine seq ?_
    refine region ?_
    refine cons (opv (Ev.move (.t rfl)) ?_)
    refine cons (opv (Ev.assign (.t rfl)) ?_)
    refine nil ?_
    refine pN ?_
    refine ret ?_
    refine done rfl (.tmp rfl .nil) (retE ?_)
    first | rfl | (simp; done)

theorem en42 : Enters Try.prog 42 := Enters.mk' (by kernel_rfl)

theorem put_own_ok (u : Value) (b : List UInt8) (v : UInt16) (w : World) (hb : IsSl u8E w u b) (hl : b.length + 2 ≤ 140737488355328) :
    Calls Try.prog 17 #[u, U16 v] w (RetO w u8E (b ++ putB 2 v.toUInt64) 5) := by
  have hbl := hb.le
  refine enter0 34 Try.func17 rfl rfl (Nat.le_of_ble_eq_true rfl) ?_
  refine seq ?_
  refine region ?_
  refine cons (opv (Ev.assign (.c (v := (Go.Value.slice none 0 0)) rfl)) ?_)
  refine nil ?_
  refine pN ?_
  refine seq ?_
  refine region ?_
  refine cons (callv en42 .nil (fun w I => width_own_ok w) ?_)
  refine cons (opv (Ev.assign (.t rfl)) ?_)
  refine nil ?_
  refine pN ?_
  refine seq ?_
  refine region ?_
  refine cons (opv (Ev.move (.t rfl)) ?_)
  refine cons (opv (Ev.len Try.underlying22 (.t rfl) (by first | exact isSl_own (by repeat first | exact List.Mem.head _ | apply List.Mem.tail) | exact fun w I => IsSl.keep0 (by assumption) I.keeps)) ?_)
  refine cons (opv (Ev.move (.t rfl)) ?_)
  refine cons (opv (Ev.len Try.underlying22 (.t rfl) (by first | exact isSl_own (by repeat first | exact List.Mem.head _ | apply List.Mem.tail) | exact fun w I => IsSl.keep0 (by assumption) I.keeps)) ?_)
  refine cons (opv (Ev.move (.t rfl)) ?_)
  refine cons (opv (Ev.add_i (.t rfl) (.t rfl) (fun _ => by omega)) ?_)
  refine cons (makeSl (E := u8E) Try.underlying22 ty5 rfl zb5 (.t rfl) (.t rfl) ⟨by omega, by omega⟩ ⟨by omega, by omega⟩ (fun o1 => ?_))
  refine cons (opv (Ev.assign (.t rfl)) ?_)
  refine nil ?_
  refine pN ?_
  refine seq ?_
  refine region ?_
  refine cons (opv (Ev.move (.t rfl)) ?_)
  refine cons (opv (Ev.move (.t rfl)) ?_)
  refine cons (copyO (E := u8E) Try.underlying22 ty5 (.t rfl) (.t rfl) (by repeat first | exact Upd.head | apply Upd.tail) (fun w I => hb.keep0 I.keeps) ?_)
  refine nil ?_
  refine pN ?_
  refine seq ?_
  refine seq ?_
  refine region ?_
  refine cons (opv (Ev.move (.t rfl)) ?_)
  refine cons (opv (Ev.sub_i (.t rfl) (.c (v := I 1) rfl) (fun _ => by omega)) ?_)
  refine cons (opv (Ev.assign (.t rfl)) ?_)
  refine nil ?_
  refine pN ?_
  refine block ?_
  have e1 : (List.replicate (Int.toNat (b.length : Int)) u8E.zero) = List.replicate b.length (0 : UInt8) := by rw [Int.toNat_natCast]; rfl
  rw [e1]
  have e2 : b.take (List.replicate b.length (0 : UInt8)).length ++ (List.replicate b.length (0 : UInt8)).drop b.length = b := by simp
  rw [e2]
  refine loop (X := Int × OV × (List UInt8)) (fun x : Int × OV × (List UInt8) => (-1 ≤ x.1 ∧ x.1 ≤ 1) ∧ (x.2.2 ++ putB (x.1 + 1).toNat v.toUInt64 = b ++ putB 2 v.toUInt64)) (fun x : Int × OV × (List UInt8) => [(1, true, U16 v), (5, true, I x.1), (6, true, x.2.1.v)]) (fun x : Int × OV × (List UInt8) => [OwnS x.2.1.v u8E x.2.2 5]) (fun x : Int × OV × (List UInt8) => (x.1 + 1).toNat) (_, o1, b) ⟨?_, ?_⟩ (by repeat first | exact Sub.nil | refine Sub.cons rfl ?_) (by repeat first | exact List.Sublist.refl _ | apply List.Sublist.cons_cons | apply List.Sublist.cons) (fun x hx => ?_)
  · omega
  · rfl
  obtain ⟨i, o, xs⟩ := x
  obtain ⟨hi, hxs⟩ : (-1 ≤ i ∧ i ≤ 1) ∧ (xs ++ putB (i + 1).toNat v.toUInt64 = b ++ putB 2 v.toUInt64) := hx
  show Sat _ _ [(1, true, U16 v), (5, true, I i), (6, true, o.v)] [OwnS o.v u8E xs 5]
  refine seq ?_
  refine seq ?_
  refine region ?_
  refine cons (opv (Ev.move (.t rfl)) ?_)
  refine cons (opv (Ev.geq_i (.t rfl) (.c (v := I 0) rfl)) ?_)
  refine nil ?_
  refine pN ?_
  first | refine condD rfl (fun h0 => ?_) (fun h0 => ?_) | refine cond rfl (fun h0 => ?_) (fun h0 => ?_)
  · try simp only [Bool.and_eq_true, Bool.or_eq_true, Bool.or_eq_false_iff, Bool.and_eq_false_iff, Bool.not_eq_true', Bool.not_eq_false', decide_eq_true_eq, decide_eq_false_iff_not, Decidable.not_not] at h0
    have hlen : xs.length + (i + 1).toNat = b.length + 2 := by
      have := congrArg List.length hxs
      simpa [putB_length] using this
    refine skip ?_
    refine pN ?_
    refine seq ?_
    refine block ?_
    refine region ?_
    refine cons (opv (Ev.move (.t rfl)) ?_)
    refine cons (opv (Ev.move (.t rfl)) ?_)
    refine cons (opv (Ev.conv_u16_u64 Try.underlying23 Try.underlying32 (.t rfl)) ?_)
    refine cons (opv (Ev.move (.t rfl)) ?_)
    refine cons (opv (Ev.mul_i (.c (v := I 8) rfl) (.t rfl) (fun _ => by omega)) ?_)
    refine cons (opv (Ev.shr_u64 (.t rfl) (.t rfl) (fun _ => by omega)) ?_)
    refine cons (opv (Ev.conv_u64_u8 Try.underlying5 Try.underlying23 (.t rfl)) ?_)
    refine cons (buildSlice (E := u8E) Try.underlying22 ty5 z5 (.cons (.t rfl) .nil) rfl rfl (fun v1 => ?_))
    refine cons (append (E := u8E) Try.underlying22 ty5 rfl zb5 zs5 (.t rfl) (.t rfl) (fun _ => by repeat first | exact Upd.head | apply Upd.tail) (by first | exact isSl_own (by repeat first | exact List.Mem.head _ | apply List.Mem.tail) | exact fun w I => IsSl.keep0 (by assumption) I.keeps) (⟨by (show _ ≤ 9223372036854775807); simp; omega, by simp; omega⟩) (fun v2 => ?_))
    refine cons (opv (Ev.assign (.t rfl)) ?_)
    refine nil ?_
    refine bN ?_
    refine pN ?_
    refine region ?_
    refine cons (opv (Ev.move (.t rfl)) ?_)
    refine cons (opv (Ev.sub_i (.t rfl) (.c (v := I 1) rfl) (fun _ => by omega)) ?_)
    refine cons (opv (Ev.assign (.t rfl)) ?_)
    refine nil ?_
    refine pN ?_
    refine next (X := Int × OV × (List UInt8)) (i - 1, _, _) ⟨?_, ?_⟩ ?_ (by repeat first | exact Sub.nil | refine Sub.cons rfl ?_) (by repeat first | exact List.Sublist.refl _ | apply List.Sublist.cons_cons | apply List.Sublist.cons)
    · try dsimp only
      omega
    · try dsimp only
      rw [← hxs]
      have e : (i + 1).toNat = (i - 1 + 1).toNat + 1 := by omega
      have e3 : (8 * i).toNat = 8 * (i - 1 + 1).toNat := by omega
      rw [e, List.append_assoc, List.append_cancel_left_eq, e3]
      rfl
    · try dsimp only
      omega
  · try simp only [Bool.and_eq_true, Bool.or_eq_true, Bool.or_eq_false_iff, Bool.and_eq_false_iff, Bool.not_eq_true', Bool.not_eq_false', decide_eq_true_eq, decide_eq_false_iff_not, Decidable.not_not] at h0
    have hi1 : (i + 1).toNat = 0 := by omega
    rw [hi1] at hxs
    simp only [putB, List.append_nil] at hxs
    subst hxs
    refine exit ?_
    refine pX ?_
    refine pX ?_
    refine bX ?_
    refine pN ?_
    refine seq ?_
    refine region ?_
    refine cons (opv (Ev.move (.t rfl)) ?_)
    refine cons (opv (Ev.assign (.t rfl)) ?_)
    refine nil ?_
    refine pN ?_
    refine ret ?_
    refine done rfl (.tmp rfl .nil) (retOE (by repeat first | exact List.Mem.head _ | apply List.Mem.tail) ?_)
    rfl

theorem sameBytes_ok (u v : Value) (a b : List UInt8) (w : World) (ha : IsSl u8E w u a) (hb : IsSl u8E w v b) :
    Calls Try.prog 18 #[u, v] w (RetV w (.bool (decide (a = b)))) := by
  have hal := ha.le
  have hbl := hb.le
  refine enter0 26 Try.func18 rfl rfl (Nat.le_of_ble_eq_true rfl) ?_
  refine seq ?_
  refine region ?_
  refine cons (opv (Ev.assign (.c (v := .bool false) rfl)) ?_)
  refine nil ?_
  refine pN ?_
  refine seq ?_
  refine seq ?_
  refine region ?_
  refine cons (opv (Ev.move (.t rfl)) ?_)
  refine cons (opv (Ev.len Try.underlying22 (.t rfl) (by first | exact isSl_own (by repeat first | exact List.Mem.head _ | apply List.Mem.tail) | exact fun w I => IsSl.keep0 (by assumption) I.keeps)) ?_)
  refine cons (opv (Ev.move (.t rfl)) ?_)
  refine cons (opv (Ev.len Try.underlying22 (.t rfl) (by first | exact isSl_own (by repeat first | exact List.Mem.head _ | apply List.Mem.tail) | exact fun w I => IsSl.keep0 (by assumption) I.keeps)) ?_)
  refine cons (opv (Ev.neq_i (.t rfl) (.t rfl)) ?_)
  refine nil ?_
  refine pN ?_
  first | refine condD rfl (fun hne => ?_) (fun hlen => ?_) | refine cond rfl (fun hne => ?_) (fun hlen => ?_)
  · try simp only [Bool.and_eq_true, Bool.or_eq_true, Bool.or_eq_false_iff, Bool.and_eq_false_iff, Bool.not_eq_true', Bool.not_eq_false', decide_eq_true_eq, decide_eq_false_iff_not, Decidable.not_not] at hne
    refine seq ?_
    refine region ?_
    refine cons (opv (Ev.assign (.c (v := .bool false) rfl)) ?_)
    refine nil ?_
    refine pN ?_
    refine ret ?_
    refine pR ?_
    refine done rfl (.tmp rfl .nil) (retE ?_)
    first
      | exact bF (fun e => by subst e; omega)
      | exact bF (fun e => by subst e; exact h2' rfl)
      | exact bT (by
          have e : i.toNat = a.length := by omega
          rw [e, List.take_length, List.take_of_length_le (by omega)] at ht
          exact ht)
  · try simp only [Bool.and_eq_true, Bool.or_eq_true, Bool.or_eq_false_iff, Bool.and_eq_false_iff, Bool.not_eq_true', Bool.not_eq_false', decide_eq_true_eq, decide_eq_false_iff_not, Decidable.not_not] at hlen
    refine skip ?_
    refine pN ?_
    refine seq ?_
    refine seq ?_
    refine region ?_
    refine cons (opv (Ev.assign (.c (v := I 0) rfl)) ?_)
    refine nil ?_
    refine pN ?_
    refine block ?_
    refine loop (X := Int) (fun x : Int => (0 ≤ x ∧ x ≤ a.length) ∧ (a.take x.toNat = b.take x.toNat)) (fun x : Int => [(0, true, u), (1, true, v), (5, true, I x)]) (fun x : Int => []) (fun x : Int => (a.length - x).toNat) (0) ⟨?_, ?_⟩ (by repeat first | exact Sub.nil | refine Sub.cons rfl ?_) (by repeat first | exact List.Sublist.refl _ | apply List.Sublist.cons_cons | apply List.Sublist.cons) (fun x hx => ?_)
    · omega
    · rfl
    obtain ⟨i, rfl⟩ : ∃ y, y = x := ⟨x, rfl⟩
    obtain ⟨hi, ht⟩ : (0 ≤ i ∧ i ≤ a.length) ∧ (a.take i.toNat = b.take i.toNat) := hx
    show Sat _ _ [(0, true, u), (1, true, v), (5, true, I i)] []
    refine seq ?_
    refine seq ?_
    refine region ?_
    refine cons (opv (Ev.move (.t rfl)) ?_)
    refine cons (opv (Ev.move (.t rfl)) ?_)
    refine cons (opv (Ev.len Try.underlying22 (.t rfl) (by first | exact isSl_own (by repeat first | exact List.Mem.head _ | apply List.Mem.tail) | exact fun w I => IsSl.keep0 (by assumption) I.keeps)) ?_)
    refine cons (opv (Ev.lss_i (.t rfl) (.t rfl)) ?_)
    refine nil ?_
    refine pN ?_
    first | refine condD rfl (fun hlt => ?_) (fun hge => ?_) | refine cond rfl (fun hlt => ?_) (fun hge => ?_)
    · try simp only [Bool.and_eq_true, Bool.or_eq_true, Bool.or_eq_false_iff, Bool.and_eq_false_iff, Bool.not_eq_true', Bool.not_eq_false', decide_eq_true_eq, decide_eq_false_iff_not, Decidable.not_not] at hlt
      refine skip ?_
      refine pN ?_
      refine seq ?_
      refine block ?_
      refine seq ?_
      refine draw' (by kernel_rfl) ?_
      refine take 0 rfl (by kernel_rfl) (by kernel_rfl) (by kernel_rfl) (by repeat first | exact List.Sublist.refl _ | apply List.Sublist.cons_cons | apply List.Sublist.cons) (Ev.move (.t rfl)) ?_
      refine take 1 rfl (by kernel_rfl) (by kernel_rfl) (by kernel_rfl) (by repeat first | exact List.Sublist.refl _ | apply List.Sublist.cons_cons | apply List.Sublist.cons) (Ev.move (.t rfl)) ?_
      refine take 2 rfl (by kernel_rfl) (by kernel_rfl) (by kernel_rfl) (by repeat first | exact List.Sublist.refl _ | apply List.Sublist.cons_cons | apply List.Sublist.cons) (Ev.indexAddr Try.underlying22 ty5 (.t rfl) (.t rfl) (by first | exact isSl_own (by repeat first | exact List.Mem.head _ | apply List.Mem.tail) | exact fun w I => IsSl.keep0 (by assumption) I.keeps) (fun _ => by omega)) ?_
      refine take 3 rfl (by kernel_rfl) (by kernel_rfl) (by kernel_rfl) (by repeat first | exact List.Sublist.refl _ | apply List.Sublist.cons_cons | apply List.Sublist.cons) (Ev.loadS0 ty5 (.t rfl) (by first | exact isSl_own (by repeat first | exact List.Mem.head _ | apply List.Mem.tail) | exact fun w I => IsSl.keep0 (by assumption) I.keeps) (fun _ => by omega)) ?_
      refine take 4 rfl (by kernel_rfl) (by kernel_rfl) (by kernel_rfl) (by repeat first | exact List.Sublist.refl _ | apply List.Sublist.cons_cons | apply List.Sublist.cons) (Ev.move (.t rfl)) ?_
      refine take 5 rfl (by kernel_rfl) (by kernel_rfl) (by kernel_rfl) (by repeat first | exact List.Sublist.refl _ | apply List.Sublist.cons_cons | apply List.Sublist.cons) (Ev.move (.t rfl)) ?_
      refine take 6 rfl (by kernel_rfl) (by kernel_rfl) (by kernel_rfl) (by repeat first | exact List.Sublist.refl _ | apply List.Sublist.cons_cons | apply List.Sublist.cons) (Ev.indexAddr Try.underlying22 ty5 (.t rfl) (.t rfl) (by first | exact isSl_own (by repeat first | exact List.Mem.head _ | apply List.Mem.tail) | exact fun w I => IsSl.keep0 (by assumption) I.keeps) (fun _ => by omega)) ?_
      refine take 7 rfl (by kernel_rfl) (by kernel_rfl) (by kernel_rfl) (by repeat first | exact List.Sublist.refl _ | apply List.Sublist.cons_cons | apply List.Sublist.cons) (Ev.loadS0 ty5 (.t rfl) (by first | exact isSl_own (by repeat first | exact List.Mem.head _ | apply List.Mem.tail) | exact fun w I => IsSl.keep0 (by assumption) I.keeps) (fun _ => by omega)) ?_
      refine take 8 rfl (by kernel_rfl) (by kernel_rfl) (by kernel_rfl) (by repeat first | exact List.Sublist.refl _ | apply List.Sublist.cons_cons | apply List.Sublist.cons) (Ev.neq_u8 (.t rfl) (.t rfl)) ?_
      refine over (by kernel_rfl) ?_
      refine pN ?_
      first | refine condD rfl (fun h2' => ?_) (fun h2' => ?_) | refine cond rfl (fun h2' => ?_) (fun h2' => ?_)
      · try simp only [Bool.and_eq_true, Bool.or_eq_true, Bool.or_eq_false_iff, Bool.and_eq_false_iff, Bool.not_eq_true', Bool.not_eq_false', decide_eq_true_eq, decide_eq_false_iff_not, Decidable.not_not] at h2'
        refine seq ?_
        refine region ?_
        refine cons (opv (Ev.assign (.c (v := .bool false) rfl)) ?_)
        refine nil ?_
        refine pN ?_
        refine ret ?_
        refine bR ?_
        refine pR ?_
        refine pR ?_
        refine bR ?_
        refine pR ?_
        refine done rfl (.tmp rfl .nil) (retE ?_)
        first
          | exact bF (fun e => by subst e; omega)
          | exact bF (fun e => by subst e; exact h2' rfl)
          | exact bT (by
              have e : i.toNat = a.length := by omega
              rw [e, List.take_length, List.take_of_length_le (by omega)] at ht
              exact ht)
      · try simp only [Bool.and_eq_true, Bool.or_eq_true, Bool.or_eq_false_iff, Bool.and_eq_false_iff, Bool.not_eq_true', Bool.not_eq_false', decide_eq_true_eq, decide_eq_false_iff_not, Decidable.not_not] at h2'
        refine skip ?_
        refine bN ?_
        refine pN ?_
        refine region ?_
        refine cons (opv (Ev.move (.t rfl)) ?_)
        refine cons (opv (Ev.add_i (.t rfl) (.c (v := I 1) rfl) (fun _ => by omega)) ?_)
        refine cons (opv (Ev.assign (.t rfl)) ?_)
        refine nil ?_
        refine pN ?_
        refine next (X := Int) (i + 1) ⟨?_, ?_⟩ ?_ (by repeat first | exact Sub.nil | refine Sub.cons rfl ?_) (by repeat first | exact List.Sublist.refl _ | apply List.Sublist.cons_cons | apply List.Sublist.cons)
        · try dsimp only
          omega
        · try dsimp only
          have e : (i + 1).toNat = i.toNat + 1 := by omega
          have h1 : i.toNat < a.length := by omega
          have h2 : i.toNat < b.length := by omega
          rw [e, List.take_succ_eq_append_getElem h1, List.take_succ_eq_append_getElem h2, ht]
          simp [List.getD, h1, h2] at h2'
          rw [h2']
        · try dsimp only
          omega
    · try simp only [Bool.and_eq_true, Bool.or_eq_true, Bool.or_eq_false_iff, Bool.and_eq_false_iff, Bool.not_eq_true', Bool.not_eq_false', decide_eq_true_eq, decide_eq_false_iff_not, Decidable.not_not] at hge
      refine exit ?_
      refine pX ?_
      refine pX ?_
      refine bX ?_
      refine pN ?_
      refine seq ?_
      refine region ?_
      refine cons (opv (Ev.assign (.c (v := .bool true) rfl)) ?_)
      refine nil ?_
      refine pN ?_
      refine ret ?_
      refine done rfl (.tmp rfl .nil) (retE ?_)
      first
        | exact bF (fun e => by subst e; omega)
        | exact bF (fun e => by subst e; exact h2' rfl)
        | exact bT (by
            have e : i.toNat = a.length := by omega
            rw [e, List.take_length, List.take_of_length_le (by omega)] at ht
            exact ht)

theorem ty22 : TyOK Try.prog 22 (ovE nilSl) := TyOK.mk' (by kernel_rfl) (by kernel_rfl)

theorem hash_ok (u : Value) (xss : List (List UInt8)) (w : World) (hs : IsSS u8E w u xss) : Calls Try.prog 31 #[u] w (RetV w (U64 (hashB 14695981039346656037 xss.flatten))) := by
  obtain ⟨vs, hvs, hvl, he⟩ := hs
  have hvle := hvs.le
  refine enter0 29 Try.func31 rfl rfl (Nat.le_of_ble_eq_true rfl) ?_
  refine seq ?_
  refine region ?_
  refine cons (opv (Ev.assign (.c (v := U64 0) rfl)) ?_)
  refine nil ?_
  refine pN ?_
  refine seq ?_
  refine region ?_
  refine cons (opv (Ev.assign (.c (v := U64 14695981039346656037) rfl)) ?_)
  refine nil ?_
  refine pN ?_
  refine seq ?_
  refine seq ?_
  refine region ?_
  refine cons (opv (Ev.move (.t rfl)) ?_)
  refine cons (opv (Ev.len Try.underlying33 (.t rfl) (by first | exact isSl_own (by repeat first | exact List.Mem.head _ | apply List.Mem.tail) | exact fun w I => IsSl.keep0 (by assumption) I.keeps)) ?_)
  refine cons (opv (Ev.move (.c (v := I 0) rfl)) ?_)
  refine nil ?_
  refine pN ?_
  refine block ?_
  refine loop (X := Int × UInt64) (fun x : Int × UInt64 => (0 ≤ x.1 ∧ x.1 ≤ xss.length) ∧ (hashB x.2 (xss.drop x.1.toNat).flatten = hashB 14695981039346656037 xss.flatten)) (fun x : Int × UInt64 => [(3, true, U64 x.2), (8, true, u), (9, true, I vs.length), (10, true, I x.1)]) (fun x : Int × UInt64 => []) (fun x : Int × UInt64 => (xss.length - x.1).toNat) (0, _) ⟨?_, ?_⟩ (by repeat first | exact Sub.nil | refine Sub.cons rfl ?_) (by repeat first | exact List.Sublist.refl _ | apply List.Sublist.cons_cons | apply List.Sublist.cons) (fun x hx => ?_)
  · omega
  · rfl
  obtain ⟨i, h⟩ := x
  obtain ⟨hi, hh⟩ : (0 ≤ i ∧ i ≤ xss.length) ∧ (hashB h (xss.drop i.toNat).flatten = hashB 14695981039346656037 xss.flatten) := hx
  show Sat _ _ [(3, true, U64 h), (8, true, u), (9, true, I vs.length), (10, true, I i)] []
  refine seq ?_
  refine region ?_
  refine cons (opv (Ev.lss_i (.t rfl) (.t rfl)) ?_)
  refine nil ?_
  refine pN ?_
  refine seq ?_
  first | refine condD rfl (fun hlt => ?_) (fun hge => ?_) | refine cond rfl (fun hlt => ?_) (fun hge => ?_)
  · try simp only [Bool.and_eq_true, Bool.or_eq_true, Bool.or_eq_false_iff, Bool.and_eq_false_iff, Bool.not_eq_true', Bool.not_eq_false', decide_eq_true_eq, decide_eq_false_iff_not, Decidable.not_not] at hlt
    refine skip ?_
    refine pN ?_
    refine seq ?_
    refine block ?_
    refine seq ?_
    refine region ?_
    refine cons (opv (Ev.indexAddr Try.underlying33 ty22 (.t rfl) (.t rfl) (by first | exact isSl_own (by repeat first | exact List.Mem.head _ | apply List.Mem.tail) | exact fun w I => IsSl.keep0 (by assumption) I.keeps) (fun _ => by omega)) ?_)
    refine cons (opv (Ev.loadS0 ty22 (.t rfl) (by first | exact isSl_own (by repeat first | exact List.Mem.head _ | apply List.Mem.tail) | exact fun w I => IsSl.keep0 (by assumption) I.keeps) (fun _ => by omega)) ?_)
    refine cons (opv (Ev.assign (.t rfl)) ?_)
    refine nil ?_
    refine pN ?_
    refine seq ?_
    refine region ?_
    have hd : xss.drop i.toNat = xss.getD i.toNat [] :: xss.drop (i + 1).toNat := by
      have e : (i + 1).toNat = i.toNat + 1 := by omega
      rw [e, List.drop_eq_getElem_cons (by omega)]; simp [List.getD, show i.toNat < xss.length by omega]
    rw [hd, List.flatten_cons] at hh
    have hx := he i.toNat (by omega)
    have hxl := hx.le
    generalize xss.getD i.toNat [] = xs at hh hx hxl
    change IsSl u8E w (vs.getD i.toNat nilSl).v xs at hx
    refine cons (opv (Ev.move (.t rfl)) ?_)
    refine cons (opv (Ev.len Try.underlying22 (.t rfl) (by first | exact isSl_own (by repeat first | exact List.Mem.head _ | apply List.Mem.tail) | exact fun w I => IsSl.keep0 (by assumption) I.keeps)) ?_)
    refine cons (opv (Ev.move (.c (v := I 0) rfl)) ?_)
    refine nil ?_
    refine pN ?_
    refine block ?_
    refine loop (X := Int × UInt64) (fun x : Int × UInt64 => (0 ≤ x.1 ∧ x.1 ≤ xs.length) ∧ (hashB x.2 (xs.drop x.1.toNat ++ (xss.drop (i + 1).toNat).flatten) = hashB h (xs ++ (xss.drop (i + 1).toNat).flatten))) (fun x : Int × UInt64 => [(3, true, U64 x.2), (8, true, u), (9, true, I vs.length), (10, true, I i), (14, true, (vs.getD i.toNat nilSl).v), (15, true, I xs.length), (16, true, I x.1)]) (fun x : Int × UInt64 => []) (fun x : Int × UInt64 => (xs.length - x.1).toNat) (0, _) ⟨?_, ?_⟩ (by repeat first | exact Sub.nil | refine Sub.cons rfl ?_) (by repeat first | exact List.Sublist.refl _ | apply List.Sublist.cons_cons | apply List.Sublist.cons) (fun x hx => ?_)
    · omega
    · rfl
    obtain ⟨j, g⟩ := x
    obtain ⟨hj, hg⟩ : (0 ≤ j ∧ j ≤ xs.length) ∧ (hashB g (xs.drop j.toNat ++ (xss.drop (i + 1).toNat).flatten) = hashB h (xs ++ (xss.drop (i + 1).toNat).flatten)) := hx
    show Sat _ _ [(3, true, U64 g), (8, true, u), (9, true, I vs.length), (10, true, I i), (14, true, (vs.getD i.toNat nilSl).v), (15, true, I xs.length), (16, true, I j)] []
    refine seq ?_
    refine region ?_
    refine cons (opv (Ev.lss_i (.t rfl) (.t rfl)) ?_)
    refine nil ?_
    refine pN ?_
    refine seq ?_
    first | refine condD rfl (fun hlt2 => ?_) (fun hge2 => ?_) | refine cond rfl (fun hlt2 => ?_) (fun hge2 => ?_)
    · try simp only [Bool.and_eq_true, Bool.or_eq_true, Bool.or_eq_false_iff, Bool.and_eq_false_iff, Bool.not_eq_true', Bool.not_eq_false', decide_eq_true_eq, decide_eq_false_iff_not, Decidable.not_not] at hlt2
      refine skip ?_
      refine pN ?_
      refine seq ?_
      refine block ?_
      refine seq ?_
      refine region ?_
      refine cons (opv (Ev.indexAddr Try.underlying22 ty5 (.t rfl) (.t rfl) (by first | exact isSl_own (by repeat first | exact List.Mem.head _ | apply List.Mem.tail) | exact fun w I => IsSl.keep0 (by assumption) I.keeps) (fun _ => by omega)) ?_)
      refine cons (opv (Ev.loadS0 ty5 (.t rfl) (by first | exact isSl_own (by repeat first | exact List.Mem.head _ | apply List.Mem.tail) | exact fun w I => IsSl.keep0 (by assumption) I.keeps) (fun _ => by omega)) ?_)
      refine cons (opv (Ev.assign (.t rfl)) ?_)
      refine nil ?_
      refine pN ?_
      refine seq ?_
      refine region ?_
      refine cons (opv (Ev.move (.t rfl)) ?_)
      refine cons (opv (Ev.move (.t rfl)) ?_)
      refine cons (opv (Ev.conv_u8_u64 Try.underlying23 Try.underlying5 (.t rfl)) ?_)
      refine cons (opv (Ev.xor_u64 (.t rfl) (.t rfl)) ?_)
      refine cons (opv (Ev.assign (.t rfl)) ?_)
      refine nil ?_
      refine pN ?_
      refine region ?_
      refine cons (opv (Ev.move (.t rfl)) ?_)
      refine cons (opv (Ev.mul_u64 (.t rfl) (.c (v := U64 1099511628211) rfl)) ?_)
      refine cons (opv (Ev.assign (.t rfl)) ?_)
      refine nil ?_
      refine bN ?_
      refine pN ?_
      refine region ?_
      refine cons (opv (Ev.add_i (.t rfl) (.c (v := I 1) rfl) (fun _ => by omega)) ?_)
      refine cons (opv (Ev.move (.t rfl)) ?_)
      refine nil ?_
      refine pN ?_
      refine next (X := Int × UInt64) (j + 1, _) ⟨?_, ?_⟩ ?_ (by repeat first | exact Sub.nil | refine Sub.cons rfl ?_) (by repeat first | exact List.Sublist.refl _ | apply List.Sublist.cons_cons | apply List.Sublist.cons)
      · try dsimp only
        omega
      · try dsimp only
        rw [← hg]
        have e : (j + 1).toNat = j.toNat + 1 := by omega
        rw [e]
        exact hashB_step g xs _ j.toNat (by omega)
      · try dsimp only
        omega
    · try simp only [Bool.and_eq_true, Bool.or_eq_true, Bool.or_eq_false_iff, Bool.and_eq_false_iff, Bool.not_eq_true', Bool.not_eq_false', decide_eq_true_eq, decide_eq_false_iff_not, Decidable.not_not] at hge2
      have hq : hashB g (xss.drop (i + 1).toNat).flatten = hashB h (xs ++ (xss.drop (i + 1).toNat).flatten) := by
        rw [List.drop_eq_nil_of_le (by omega)] at hg; exact hg
      refine exit ?_
      refine pX ?_
      refine pX ?_
      refine bX ?_
      refine bN ?_
      refine pN ?_
      refine region ?_
      refine cons (opv (Ev.add_i (.t rfl) (.c (v := I 1) rfl) (fun _ => by omega)) ?_)
      refine cons (opv (Ev.move (.t rfl)) ?_)
      refine nil ?_
      refine pN ?_
      refine next (X := Int × UInt64) (i + 1, _) ⟨?_, ?_⟩ ?_ (by repeat first | exact Sub.nil | refine Sub.cons rfl ?_) (by repeat first | exact List.Sublist.refl _ | apply List.Sublist.cons_cons | apply List.Sublist.cons)
      · try dsimp only
        omega
      · try dsimp only
        exact hq.trans hh
      · try dsimp only
        omega
  · try simp only [Bool.and_eq_true, Bool.or_eq_true, Bool.or_eq_false_iff, Bool.and_eq_false_iff, Bool.not_eq_true', Bool.not_eq_false', decide_eq_true_eq, decide_eq_false_iff_not, Decidable.not_not] at hge
    refine exit ?_
    refine pX ?_
    refine pX ?_
    refine bX ?_
    refine pN ?_
    refine seq ?_
    refine region ?_
    refine cons (opv (Ev.move (.t rfl)) ?_)
    refine cons (opv (Ev.assign (.t rfl)) ?_)
    refine nil ?_
    refine pN ?_
    refine ret ?_
    refine done rfl (.tmp rfl .nil) (retE ?_)
    have e : xss.drop i.toNat = [] := List.drop_eq_nil_of_le (by omega)
    rw [e] at hh
    rw [← hh]; rfl
end Go.Proofs.Ytcmpdhggeilkfaa
