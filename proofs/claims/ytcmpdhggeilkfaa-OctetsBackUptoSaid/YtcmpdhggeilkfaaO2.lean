/- octets -/
import Derived.Test.YtcmpdhggeilkfaaO1
import Derived.Test.YtcmpdhggeilkfaaGxH
set_option linter.unusedVariables false
set_option linter.unusedSimpArgs false
namespace Go.Proofs.Ytcmpdhggeilkfaa
open Go Go.Gx

/-- Bytes as a number, the highest first. -/
def numB (l : List UInt8) : UInt64 := l.foldl (fun v x => v * 256 + x.toUInt64) 0
theorem or_byte (v : UInt64) (x : UInt8) : shl64 v 8 ||| x.toUInt64 = v * 256 + x.toUInt64 := by
  apply UInt64.toNat_inj.1
  have hx := x.toNat_lt
  rw [UInt64.toNat_or, toNat_shl64, UInt64.toNat_add, UInt64.toNat_mul, UInt8.toNat_toUInt64]
  have e1 : v.toNat * 2 ^ 8 % 18446744073709551616 = 2 ^ 8 * (v.toNat % 72057594037927936) := by omega
  rw [e1, ← Nat.two_pow_add_eq_or_of_lt (by omega : x.toNat < 2 ^ 8)]
  have e2 : UInt64.toNat 256 = 256 := rfl
  rw [e2]
  omega
theorem numB_snoc (l : List UInt8) (x : UInt8) : numB (l ++ [x]) = numB l * 256 + x.toUInt64 := by simp [numB]
theorem take_snoc {α : Type} (l : List α) (i : Int) (h0 : 0 ≤ i) (h1 : i < l.length) (z : α) : l.take (i + 1).toNat = l.take i.toNat ++ [l.getD i.toNat z] := by
  have e : (i + 1).toNat = i.toNat + 1 := by omega
  have h2 : i.toNat < l.length := by omega
  rw [e, List.take_succ_eq_append_getElem h2]
  simp [List.getD, h2]
theorem numB_step (l : List UInt8) (i : Int) (h0 : 0 ≤ i) (h1 : i < l.length) : numB (l.take (i + 1).toNat) = numB (l.take i.toNat) * 256 + (l.getD i.toNat 0).toUInt64 := by
  rw [take_snoc l i h0 h1 0, numB_snoc]
theorem numB_lt_aux : ∀ (l : List UInt8) (v : UInt64), v.toNat * 256 ^ l.length + 256 ^ l.length ≤ 18446744073709551616 → (l.foldl (fun v x => v * 256 + x.toUInt64) v).toNat < v.toNat * 256 ^ l.length + 256 ^ l.length
  | [], v, _ => by simp
  | x :: l, v, h => by
    have hx := x.toNat_lt
    have hp : 0 < 256 ^ l.length := Nat.pow_pos (by decide)
    rw [List.length_cons, Nat.pow_succ] at h ⊢
    have e : (v * 256 + x.toUInt64).toNat = v.toNat * 256 + x.toNat := by
      rw [UInt64.toNat_add, UInt64.toNat_mul, UInt8.toNat_toUInt64]
      have e2 : UInt64.toNat 256 = 256 := rfl
      rw [e2]
      have h2 : (v.toNat * 256 + 256) * 256 ^ l.length ≤ 18446744073709551616 := by
        rw [Nat.add_mul, Nat.mul_assoc, Nat.mul_comm 256 (256 ^ l.length)]
        exact h
      have h3 : v.toNat * 256 + 256 ≤ (v.toNat * 256 + 256) * 256 ^ l.length := Nat.le_mul_of_pos_right _ hp
      omega
    have hs : (v.toNat * 256 + x.toNat) * 256 ^ l.length + 256 ^ l.length ≤ v.toNat * (256 ^ l.length * 256) + 256 ^ l.length * 256 := by
      have : (v.toNat * 256 + x.toNat + 1) * 256 ^ l.length ≤ (v.toNat * 256 + 256) * 256 ^ l.length := Nat.mul_le_mul_right _ (by omega)
      rw [Nat.add_mul _ 1, Nat.one_mul, Nat.add_mul _ 256, Nat.mul_assoc _ 256, Nat.mul_comm 256 (256 ^ l.length)] at this
      exact this
    have h4 := numB_lt_aux l (v * 256 + x.toUInt64) (by rw [e]; omega)
    rw [e] at h4
    rw [List.foldl_cons]
    omega
theorem numB_lt (l : List UInt8) (h : l.length ≤ 8) : (numB l).toNat < 256 ^ l.length := by
  have h1 : 256 ^ l.length ≤ 256 ^ 8 := Nat.pow_le_pow_right (by decide) h
  have h2 := numB_lt_aux l 0 (by simp only [UInt64.toNat_zero, Nat.zero_mul, Nat.zero_add]; exact h1)
  simp only [UInt64.toNat_zero, Nat.zero_mul, Nat.zero_add] at h2
  exact h2
/-- The number that stands at a place; and the error. -/
def takeB (b : List UInt8) (p : Int) (n : Nat) : UInt64 × Int := if 0 ≤ p ∧ p + n ≤ b.length then (numB ((b.take (p + n).toNat).drop p.toNat), 0) else (0, 5)
theorem takeB_lt (b : List UInt8) (p : Int) (n : Nat) (hn : n ≤ 8) : (takeB b p n).1.toNat < 256 ^ n := by
  unfold takeB
  split
  · rename_i h
    have hl : ((b.take (p + n).toNat).drop p.toNat).length = n := by simp; omega
    have := numB_lt ((b.take (p + n).toNat).drop p.toNat) (by omega)
    rw [hl] at this
    exact this
  · exact Nat.pow_pos (by decide)
theorem cut8 {v : UInt64} (h : v.toNat < 256 ^ 1) : v.toUInt8.toUInt64 = v := by
  apply UInt64.toNat_inj.1
  simp
  omega
theorem cut16 {v : UInt64} (h : v.toNat < 256 ^ 2) : v.toUInt16.toUInt64 = v := by
  apply UInt64.toNat_inj.1
  simp
  omega
theorem cut32 {v : UInt64} (h : v.toNat < 256 ^ 4) : v.toUInt32.toUInt64 = v := by
  apply UInt64.toNat_inj.1
  simp
  omega

theorem take_uint8_ok (u : Value) (b : List UInt8) (p : Int) (w : World) (hb : IsSl u8E w u b) : Calls Try.prog 23 #[u, I p] w (RetV w (.tuple #[U8 (takeB b p 1).1.toUInt8, I (takeB b p 1).2])) := by
  have hbl := hb.le
  refine enter0 41 Try.func23 rfl rfl (Nat.le_of_ble_eq_true rfl) ?_
  refine seq ?_
  refine region ?_
  refine cons (opv (Ev.assign (.c (v := U8 0) rfl)) ?_)
  refine cons (opv (Ev.assign (.c (v := I 0) rfl)) ?_)
  refine nil ?_
  refine pN ?_
  refine seq ?_
  refine region ?_
  refine cons (callv en38 .nil (fun w I => width_uint8_ok w) ?_)
  refine cons (opv (Ev.assign (.t rfl)) ?_)
  refine nil ?_
  refine pN ?_
  refine seq ?_
  refine seq ?_
  refine region ?_
  refine cons (opv (Ev.move (.t rfl)) ?_)
  refine cons (opv (Ev.lss_i (.t rfl) (.c (v := I 0) rfl)) ?_)
  refine cons (opv (Ev.move (.t rfl)) ?_)
  refine cons (opg rfl rfl (Ev.move (.t rfl)) ?_)
  refine cons (opg rfl rfl (Ev.move (.t rfl)) ?_)
  refine cons (opg rfl rfl (Ev.len Try.underlying22 (.g rfl id) (by first | exact isSl_own (by repeat first | exact List.Mem.head _ | apply List.Mem.tail) | exact fun w I => IsSl.keep0 (by assumption) I.keeps)) ?_)
  refine cons (opg rfl rfl (Ev.move (.t rfl)) ?_)
  refine cons (opg rfl rfl (Ev.sub_i (.g rfl id) (.g rfl id) (fun _ => by first | omega | (rename_i hg; simp at hg; omega))) ?_)
  refine cons (opg rfl rfl (Ev.gtr_i (.g rfl id) (.g rfl id)) ?_)
  refine cons (opv (Ev.pickO (.t rfl) (.c (v := .bool true) rfl) (fun {_} h => by cases h; rfl) ⟨_, rfl⟩ (by intro h1 h; first | (rw [h] <;> rfl) | (rw [h, h1] <;> rfl) | simp_all)) ?_)
  refine nil ?_
  refine pN ?_
  first | refine condD rfl (fun h0 => ?_) (fun h0 => ?_) | refine cond rfl (fun h0 => ?_) (fun h0 => ?_)
  · try simp only [Bool.and_eq_true, Bool.or_eq_true, Bool.or_eq_false_iff, Bool.and_eq_false_iff, Bool.not_eq_true', Bool.not_eq_false', decide_eq_true_eq, decide_eq_false_iff_not, Decidable.not_not] at h0
    refine seq ?_
    refine region ?_
    refine cons (opv (Ev.assign (.c (v := U8 0) rfl)) ?_)
    refine cons (opv (Ev.assign (.c (v := I 5) rfl)) ?_)
    refine nil ?_
    refine pN ?_
    refine ret ?_
    refine pR ?_
    refine done rfl (.tmp rfl (.tmp rfl .nil)) (retE ?_)
    first
      | (have e : ¬ (0 ≤ p ∧ p + (1 : Nat) ≤ b.length) := by omega
         unfold takeB; rw [if_neg e]; rfl)
      | (have e : 0 ≤ p ∧ p + (1 : Nat) ≤ b.length := by omega
         have ei : i.toNat = 1 := by omega
         rw [ei, List.take_of_length_le (by omega)] at hv
         unfold takeB; rw [if_pos e]
         have hxs' : (b.take (p + (1 : Nat)).toNat).drop p.toNat = xs := hxs
         rw [hxs', ← hv]; rfl)
  · try simp only [Bool.and_eq_true, Bool.or_eq_true, Bool.or_eq_false_iff, Bool.and_eq_false_iff, Bool.not_eq_true', Bool.not_eq_false', decide_eq_true_eq, decide_eq_false_iff_not, Decidable.not_not] at h0
    refine skip ?_
    refine pN ?_
    refine seq ?_
    refine region ?_
    refine cons (opv (Ev.assign (.c (v := U64 0) rfl)) ?_)
    refine nil ?_
    refine pN ?_
    refine seq ?_
    refine seq ?_
    refine region ?_
    refine cons (opv (Ev.move (.t rfl)) ?_)
    refine cons (opv (Ev.move (.t rfl)) ?_)
    refine cons (opv (Ev.move (.t rfl)) ?_)
    refine cons (opv (Ev.move (.t rfl)) ?_)
    refine cons (opv (Ev.add_i (.t rfl) (.t rfl) (fun _ => by omega)) ?_)
    refine cons (opv (Ev.slice Try.underlying22 ty5 (.t rfl) (.t rfl) (.t rfl) (by first | exact isSl_own (by repeat first | exact List.Mem.head _ | apply List.Mem.tail) | exact fun w I => IsSl.keep0 (by assumption) I.keeps) (fun _ => by omega)) ?_)
    refine cons (opv (Ev.len Try.underlying22 (.t rfl) (fun w I => IsSl.sub (w := w) (by first | exact isSl_own (by repeat first | exact List.Mem.head _ | apply List.Mem.tail) w I | exact IsSl.keep0 (by assumption) I.keeps) (by omega) (by omega))) ?_)
    refine cons (opv (Ev.move (.c (v := I 0) rfl)) ?_)
    refine nil ?_
    refine pN ?_
    refine block ?_
    have hs := hb.sub (l := p.toNat) (k := (p + 1).toNat) (by omega) (by omega)
    have hxl : ((b.take (p + 1).toNat).drop p.toNat).length = 1 := by simp; omega
    rw [hxl]
    generalize hxs : (b.take (p + 1).toNat).drop p.toNat = xs at hs hxl
    refine loop (X := Int × UInt64) (fun x : Int × UInt64 => (0 ≤ x.1 ∧ x.1 ≤ 1) ∧ (x.2 = numB (xs.take x.1.toNat))) (fun x : Int × UInt64 => [(7, true, U64 x.2), (26, true, subS u8E.size u p.toNat (p + 1).toNat), (27, true, I 1), (28, true, I x.1)]) (fun x : Int × UInt64 => []) (fun x : Int × UInt64 => (1 - x.1).toNat) (0, _) ⟨?_, ?_⟩ (by repeat first | exact Sub.nil | refine Sub.cons rfl ?_) (by repeat first | exact List.Sublist.refl _ | apply List.Sublist.cons_cons | apply List.Sublist.cons) (fun x hx => ?_)
    · omega
    · rfl
    obtain ⟨i, v⟩ := x
    obtain ⟨hi, hv⟩ : (0 ≤ i ∧ i ≤ 1) ∧ (v = numB (xs.take i.toNat)) := hx
    show Sat _ _ [(7, true, U64 v), (26, true, subS u8E.size u p.toNat (p + 1).toNat), (27, true, I 1), (28, true, I i)] []
    refine seq ?_
    refine region ?_
    refine cons (opv (Ev.lss_i (.t rfl) (.t rfl)) ?_)
    refine nil ?_
    refine pN ?_
    refine seq ?_
    first | refine condD rfl (fun h1 => ?_) (fun h1 => ?_) | refine cond rfl (fun h1 => ?_) (fun h1 => ?_)
    · try simp only [Bool.and_eq_true, Bool.or_eq_true, Bool.or_eq_false_iff, Bool.and_eq_false_iff, Bool.not_eq_true', Bool.not_eq_false', decide_eq_true_eq, decide_eq_false_iff_not, Decidable.not_not] at h1
      refine skip ?_
      refine pN ?_
      refine seq ?_
      refine block ?_
      refine seq ?_
      refine region ?_
      refine cons (opv (Ev.indexAddr Try.underlying22 ty5 (.t rfl) (.t rfl) (fun w I => hs.keep0 I.keeps) (fun _ => by omega)) ?_)
      refine cons (opv (Ev.loadS0 ty5 (.t rfl) (fun w I => hs.keep0 I.keeps) (fun _ => by omega)) ?_)
      refine cons (opv (Ev.assign (.t rfl)) ?_)
      refine nil ?_
      refine pN ?_
      refine seq ?_
      refine region ?_
      refine cons (opv (Ev.move (.t rfl)) ?_)
      refine cons (opv (Ev.shl_u64 (.t rfl) (.c rfl) (fun _ => by decide)) ?_)
      refine cons (opv (Ev.assign (.t rfl)) ?_)
      refine nil ?_
      refine pN ?_
      refine region ?_
      refine cons (opv (Ev.move (.t rfl)) ?_)
      refine cons (opv (Ev.move (.t rfl)) ?_)
      refine cons (opv (Ev.conv_u8_u64 Try.underlying23 Try.underlying5 (.t rfl)) ?_)
      refine cons (opv (Ev.or_u64 (.t rfl) (.t rfl)) ?_)
      refine cons (opv (Ev.assign (.t rfl)) ?_)
      refine nil ?_
      refine bN ?_
      refine pN ?_
      refine region ?_
      refine cons (opv (Ev.add_i (.t rfl) (.c (v := I 1) rfl) (fun _ => by omega)) ?_)
      refine cons (opv (Ev.move (.t rfl)) ?_)
      refine nil ?_
      refine pN ?_
      refine next (X := Int × UInt64) (i + 1, _) ⟨?_, ?_⟩ ?_ (by repeat first | exact Sub.nil | refine Sub.cons rfl ?_) (by repeat first | exact List.Sublist.refl _ | apply List.Sublist.cons_cons | apply List.Sublist.cons)
      · try dsimp only
        omega
      · try dsimp only
        rw [numB_step xs i hi.1 (by omega), ← or_byte, ← hv]
        rfl
      · try dsimp only
        omega
    · try simp only [Bool.and_eq_true, Bool.or_eq_true, Bool.or_eq_false_iff, Bool.and_eq_false_iff, Bool.not_eq_true', Bool.not_eq_false', decide_eq_true_eq, decide_eq_false_iff_not, Decidable.not_not] at h1
      refine exit ?_
      refine pX ?_
      refine pX ?_
      refine bX ?_
      refine pN ?_
      refine seq ?_
      refine region ?_
      refine cons (opv (Ev.move (.t rfl)) ?_)
      refine cons (opv (Ev.conv_u64_u8 Try.underlying5 Try.underlying23 (.t rfl)) ?_)
      refine cons (opv (Ev.assign (.t rfl)) ?_)
      refine cons (opv (Ev.assign (.c (v := I 0) rfl)) ?_)
      refine nil ?_
      refine pN ?_
      refine ret ?_
      refine done rfl (.tmp rfl (.tmp rfl .nil)) (retE ?_)
      first
        | (have e : ¬ (0 ≤ p ∧ p + (1 : Nat) ≤ b.length) := by omega
           unfold takeB; rw [if_neg e]; rfl)
        | (have e : 0 ≤ p ∧ p + (1 : Nat) ≤ b.length := by omega
           have ei : i.toNat = 1 := by omega
           rw [ei, List.take_of_length_le (by omega)] at hv
           unfold takeB; rw [if_pos e]
           have hxs' : (b.take (p + (1 : Nat)).toNat).drop p.toNat = xs := hxs
           rw [hxs', ← hv]; rfl)

theorem take_uint16_ok (u : Value) (b : List UInt8) (p : Int) (w : World) (hb : IsSl u8E w u b) : Calls Try.prog 24 #[u, I p] w (RetV w (.tuple #[U16 (takeB b p 2).1.toUInt16, I (takeB b p 2).2])) := by
  have hbl := hb.le
  refine enter0 41 Try.func24 rfl rfl (Nat.le_of_ble_eq_true rfl) ?_
  refine seq ?_
  refine region ?_
  refine cons (opv (Ev.assign (.c (v := U16 0) rfl)) ?_)
  refine cons (opv (Ev.assign (.c (v := I 0) rfl)) ?_)
  refine nil ?_
  refine pN ?_
  refine seq ?_
  refine region ?_
  refine cons (callv en39 .nil (fun w I => width_uint16_ok w) ?_)
  refine cons (opv (Ev.assign (.t rfl)) ?_)
  refine nil ?_
  refine pN ?_
  refine seq ?_
  refine seq ?_
  refine region ?_
  refine cons (opv (Ev.move (.t rfl)) ?_)
  refine cons (opv (Ev.lss_i (.t rfl) (.c (v := I 0) rfl)) ?_)
  refine cons (opv (Ev.move (.t rfl)) ?_)
  refine cons (opg rfl rfl (Ev.move (.t rfl)) ?_)
  refine cons (opg rfl rfl (Ev.move (.t rfl)) ?_)
  refine cons (opg rfl rfl (Ev.len Try.underlying22 (.g rfl id) (by first | exact isSl_own (by repeat first | exact List.Mem.head _ | apply List.Mem.tail) | exact fun w I => IsSl.keep0 (by assumption) I.keeps)) ?_)
  refine cons (opg rfl rfl (Ev.move (.t rfl)) ?_)
  refine cons (opg rfl rfl (Ev.sub_i (.g rfl id) (.g rfl id) (fun _ => by first | omega | (rename_i hg; simp at hg; omega))) ?_)
  refine cons (opg rfl rfl (Ev.gtr_i (.g rfl id) (.g rfl id)) ?_)
  refine cons (opv (Ev.pickO (.t rfl) (.c (v := .bool true) rfl) (fun {_} h => by cases h; rfl) ⟨_, rfl⟩ (by intro h1 h; first | (rw [h] <;> rfl) | (rw [h, h1] <;> rfl) | simp_all)) ?_)
  refine nil ?_
  refine pN ?_
  first | refine condD rfl (fun h0 => ?_) (fun h0 => ?_) | refine cond rfl (fun h0 => ?_) (fun h0 => ?_)
  · try simp only [Bool.and_eq_true, Bool.or_eq_true, Bool.or_eq_false_iff, Bool.and_eq_false_iff, Bool.not_eq_true', Bool.not_eq_false', decide_eq_true_eq, decide_eq_false_iff_not, Decidable.not_not] at h0
    refine seq ?_
    refine region ?_
    refine cons (opv (Ev.assign (.c (v := U16 0) rfl)) ?_)
    refine cons (opv (Ev.assign (.c (v := I 5) rfl)) ?_)
    refine nil ?_
    refine pN ?_
    refine ret ?_
    refine pR ?_
    refine done rfl (.tmp rfl (.tmp rfl .nil)) (retE ?_)
    first
      | (have e : ¬ (0 ≤ p ∧ p + (2 : Nat) ≤ b.length) := by omega
         unfold takeB; rw [if_neg e]; rfl)
      | (have e : 0 ≤ p ∧ p + (2 : Nat) ≤ b.length := by omega
         have ei : i.toNat = 2 := by omega
         rw [ei, List.take_of_length_le (by omega)] at hv
         unfold takeB; rw [if_pos e]
         have hxs' : (b.take (p + (2 : Nat)).toNat).drop p.toNat = xs := hxs
         rw [hxs', ← hv]; rfl)
  · try simp only [Bool.and_eq_true, Bool.or_eq_true, Bool.or_eq_false_iff, Bool.and_eq_false_iff, Bool.not_eq_true', Bool.not_eq_false', decide_eq_true_eq, decide_eq_false_iff_not, Decidable.not_not] at h0
    refine skip ?_
    refine pN ?_
    refine seq ?_
    refine region ?_
    refine cons (opv (Ev.assign (.c (v := U64 0) rfl)) ?_)
    refine nil ?_
    refine pN ?_
    refine seq ?_
    refine seq ?_
    refine region ?_
    refine cons (opv (Ev.move (.t rfl)) ?_)
    refine cons (opv (Ev.move (.t rfl)) ?_)
    refine cons (opv (Ev.move (.t rfl)) ?_)
    refine cons (opv (Ev.move (.t rfl)) ?_)
    refine cons (opv (Ev.add_i (.t rfl) (.t rfl) (fun _ => by omega)) ?_)
    refine cons (opv (Ev.slice Try.underlying22 ty5 (.t rfl) (.t rfl) (.t rfl) (by first | exact isSl_own (by repeat first | exact List.Mem.head _ | apply List.Mem.tail) | exact fun w I => IsSl.keep0 (by assumption) I.keeps) (fun _ => by omega)) ?_)
    refine cons (opv (Ev.len Try.underlying22 (.t rfl) (fun w I => IsSl.sub (w := w) (by first | exact isSl_own (by repeat first | exact List.Mem.head _ | apply List.Mem.tail) w I | exact IsSl.keep0 (by assumption) I.keeps) (by omega) (by omega))) ?_)
    refine cons (opv (Ev.move (.c (v := I 0) rfl)) ?_)
    refine nil ?_
    refine pN ?_
    refine block ?_
    have hs := hb.sub (l := p.toNat) (k := (p + 2).toNat) (by omega) (by omega)
    have hxl : ((b.take (p + 2).toNat).drop p.toNat).length = 2 := by simp; omega
    rw [hxl]
    generalize hxs : (b.take (p + 2).toNat).drop p.toNat = xs at hs hxl
    refine loop (X := Int × UInt64) (fun x : Int × UInt64 => (0 ≤ x.1 ∧ x.1 ≤ 2) ∧ (x.2 = numB (xs.take x.1.toNat))) (fun x : Int × UInt64 => [(7, true, U64 x.2), (26, true, subS u8E.size u p.toNat (p + 2).toNat), (27, true, I 2), (28, true, I x.1)]) (fun x : Int × UInt64 => []) (fun x : Int × UInt64 => (2 - x.1).toNat) (0, _) ⟨?_, ?_⟩ (by repeat first | exact Sub.nil | refine Sub.cons rfl ?_) (by repeat first | exact List.Sublist.refl _ | apply List.Sublist.cons_cons | apply List.Sublist.cons) (fun x hx => ?_)
    · omega
    · rfl
    obtain ⟨i, v⟩ := x
    obtain ⟨hi, hv⟩ : (0 ≤ i ∧ i ≤ 2) ∧ (v = numB (xs.take i.toNat)) := hx
    show Sat _ _ [(7, true, U64 v), (26, true, subS u8E.size u p.toNat (p + 2).toNat), (27, true, I 2), (28, true, I i)] []
    refine seq ?_
    refine region ?_
    refine cons (opv (Ev.lss_i (.t rfl) (.t rfl)) ?_)
    refine nil ?_
    refine pN ?_
    refine seq ?_
    first | refine condD rfl (fun h1 => ?_) (fun h1 => ?_) | refine cond rfl (fun h1 => ?_) (fun h1 => ?_)
    · try simp only [Bool.and_eq_true, Bool.or_eq_true, Bool.or_eq_false_iff, Bool.and_eq_false_iff, Bool.not_eq_true', Bool.not_eq_false', decide_eq_true_eq, decide_eq_false_iff_not, Decidable.not_not] at h1
      refine skip ?_
      refine pN ?_
      refine seq ?_
      refine block ?_
      refine seq ?_
      refine region ?_
      refine cons (opv (Ev.indexAddr Try.underlying22 ty5 (.t rfl) (.t rfl) (fun w I => hs.keep0 I.keeps) (fun _ => by omega)) ?_)
      refine cons (opv (Ev.loadS0 ty5 (.t rfl) (fun w I => hs.keep0 I.keeps) (fun _ => by omega)) ?_)
      refine cons (opv (Ev.assign (.t rfl)) ?_)
      refine nil ?_
      refine pN ?_
      refine seq ?_
      refine region ?_
      refine cons (opv (Ev.move (.t rfl)) ?_)
      refine cons (opv (Ev.shl_u64 (.t rfl) (.c rfl) (fun _ => by decide)) ?_)
      refine cons (opv (Ev.assign (.t rfl)) ?_)
      refine nil ?_
      refine pN ?_
      refine region ?_
      refine cons (opv (Ev.move (.t rfl)) ?_)
      refine cons (opv (Ev.move (.t rfl)) ?_)
      refine cons (opv (Ev.conv_u8_u64 Try.underlying23 Try.underlying5 (.t rfl)) ?_)
      refine cons (opv (Ev.or_u64 (.t rfl) (.t rfl)) ?_)
      refine cons (opv (Ev.assign (.t rfl)) ?_)
      refine nil ?_
      refine bN ?_
      refine pN ?_
      refine region ?_
      refine cons (opv (Ev.add_i (.t rfl) (.c (v := I 1) rfl) (fun _ => by omega)) ?_)
      refine cons (opv (Ev.move (.t rfl)) ?_)
      refine nil ?_
      refine pN ?_
      refine next (X := Int × UInt64) (i + 1, _) ⟨?_, ?_⟩ ?_ (by repeat first | exact Sub.nil | refine Sub.cons rfl ?_) (by repeat first | exact List.Sublist.refl _ | apply List.Sublist.cons_cons | apply List.Sublist.cons)
      · try dsimp only
        omega
      · try dsimp only
        rw [numB_step xs i hi.1 (by omega), ← or_byte, ← hv]
        rfl
      · try dsimp only
        omega
    · try simp only [Bool.and_eq_true, Bool.or_eq_true, Bool.or_eq_false_iff, Bool.and_eq_false_iff, Bool.not_eq_true', Bool.not_eq_false', decide_eq_true_eq, decide_eq_false_iff_not, Decidable.not_not] at h1
      refine exit ?_
      refine pX ?_
      refine pX ?_
      refine bX ?_
      refine pN ?_
      refine seq ?_
      refine region ?_
      refine cons (opv (Ev.move (.t rfl)) ?_)
      refine cons (opv (Ev.conv_u64_u16 Try.underlying27 Try.underlying23 (.t rfl)) ?_)
      refine cons (opv (Ev.assign (.t rfl)) ?_)
      refine cons (opv (Ev.assign (.c (v := I 0) rfl)) ?_)
      refine nil ?_
      refine pN ?_
      refine ret ?_
      refine done rfl (.tmp rfl (.tmp rfl .nil)) (retE ?_)
      first
        | (have e : ¬ (0 ≤ p ∧ p + (2 : Nat) ≤ b.length) := by omega
           unfold takeB; rw [if_neg e]; rfl)
        | (have e : 0 ≤ p ∧ p + (2 : Nat) ≤ b.length := by omega
           have ei : i.toNat = 2 := by omega
           rw [ei, List.take_of_length_le (by omega)] at hv
           unfold takeB; rw [if_pos e]
           have hxs' : (b.take (p + (2 : Nat)).toNat).drop p.toNat = xs := hxs
           rw [hxs', ← hv]; rfl)

theorem take_uint32_ok (u : Value) (b : List UInt8) (p : Int) (w : World) (hb : IsSl u8E w u b) : Calls Try.prog 25 #[u, I p] w (RetV w (.tuple #[U32 (takeB b p 4).1.toUInt32, I (takeB b p 4).2])) := by
  have hbl := hb.le
  refine enter0 41 Try.func25 rfl rfl (Nat.le_of_ble_eq_true rfl) ?_
  refine seq ?_
  refine region ?_
  refine cons (opv (Ev.assign (.c (v := U32 0) rfl)) ?_)
  refine cons (opv (Ev.assign (.c (v := I 0) rfl)) ?_)
  refine nil ?_
  refine pN ?_
  refine seq ?_
  refine region ?_
  refine cons (callv en40 .nil (fun w I => width_uint32_ok w) ?_)
  refine cons (opv (Ev.assign (.t rfl)) ?_)
  refine nil ?_
  refine pN ?_
  refine seq ?_
  refine seq ?_
  refine region ?_
  refine cons (opv (Ev.move (.t rfl)) ?_)
  refine cons (opv (Ev.lss_i (.t rfl) (.c (v := I 0) rfl)) ?_)
  refine cons (opv (Ev.move (.t rfl)) ?_)
  refine cons (opg rfl rfl (Ev.move (.t rfl)) ?_)
  refine cons (opg rfl rfl (Ev.move (.t rfl)) ?_)
  refine cons (opg rfl rfl (Ev.len Try.underlying22 (.g rfl id) (by first | exact isSl_own (by repeat first | exact List.Mem.head _ | apply List.Mem.tail) | exact fun w I => IsSl.keep0 (by assumption) I.keeps)) ?_)
  refine cons (opg rfl rfl (Ev.move (.t rfl)) ?_)
  refine cons (opg rfl rfl (Ev.sub_i (.g rfl id) (.g rfl id) (fun _ => by first | omega | (rename_i hg; simp at hg; omega))) ?_)
  refine cons (opg rfl rfl (Ev.gtr_i (.g rfl id) (.g rfl id)) ?_)
  refine cons (opv (Ev.pickO (.t rfl) (.c (v := .bool true) rfl) (fun {_} h => by cases h; rfl) ⟨_, rfl⟩ (by intro h1 h; first | (rw [h] <;> rfl) | (rw [h, h1] <;> rfl) | simp_all)) ?_)
  refine nil ?_
  refine pN ?_
  first | refine condD rfl (fun h0 => ?_) (fun h0 => ?_) | refine cond rfl (fun h0 => ?_) (fun h0 => ?_)
  · try simp only [Bool.and_eq_true, Bool.or_eq_true, Bool.or_eq_false_iff, Bool.and_eq_false_iff, Bool.not_eq_true', Bool.not_eq_false', decide_eq_true_eq, decide_eq_false_iff_not, Decidable.not_not] at h0
    refine seq ?_
    refine region ?_
    refine cons (opv (Ev.assign (.c (v := U32 0) rfl)) ?_)
    refine cons (opv (Ev.assign (.c (v := I 5) rfl)) ?_)
    refine nil ?_
    refine pN ?_
    refine ret ?_
    refine pR ?_
    refine done rfl (.tmp rfl (.tmp rfl .nil)) (retE ?_)
    first
      | (have e : ¬ (0 ≤ p ∧ p + (4 : Nat) ≤ b.length) := by omega
         unfold takeB; rw [if_neg e]; rfl)
      | (have e : 0 ≤ p ∧ p + (4 : Nat) ≤ b.length := by omega
         have ei : i.toNat = 4 := by omega
         rw [ei, List.take_of_length_le (by omega)] at hv
         unfold takeB; rw [if_pos e]
         have hxs' : (b.take (p + (4 : Nat)).toNat).drop p.toNat = xs := hxs
         rw [hxs', ← hv]; rfl)
  · try simp only [Bool.and_eq_true, Bool.or_eq_true, Bool.or_eq_false_iff, Bool.and_eq_false_iff, Bool.not_eq_true', Bool.not_eq_false', decide_eq_true_eq, decide_eq_false_iff_not, Decidable.not_not] at h0
    refine skip ?_
    refine pN ?_
    refine seq ?_
    refine region ?_
    refine cons (opv (Ev.assign (.c (v := U64 0) rfl)) ?_)
    refine nil ?_
    refine pN ?_
    refine seq ?_
    refine seq ?_
    refine region ?_
    refine cons (opv (Ev.move (.t rfl)) ?_)
    refine cons (opv (Ev.move (.t rfl)) ?_)
    refine cons (opv (Ev.move (.t rfl)) ?_)
    refine cons (opv (Ev.move (.t rfl)) ?_)
    refine cons (opv (Ev.add_i (.t rfl) (.t rfl) (fun _ => by omega)) ?_)
    refine cons (opv (Ev.slice Try.underlying22 ty5 (.t rfl) (.t rfl) (.t rfl) (by first | exact isSl_own (by repeat first | exact List.Mem.head _ | apply List.Mem.tail) | exact fun w I => IsSl.keep0 (by assumption) I.keeps) (fun _ => by omega)) ?_)
    refine cons (opv (Ev.len Try.underlying22 (.t rfl) (fun w I => IsSl.sub (w := w) (by first | exact isSl_own (by repeat first | exact List.Mem.head _ | apply List.Mem.tail) w I | exact IsSl.keep0 (by assumption) I.keeps) (by omega) (by omega))) ?_)
    refine cons (opv (Ev.move (.c (v := I 0) rfl)) ?_)
    refine nil ?_
    refine pN ?_
    refine block ?_
    have hs := hb.sub (l := p.toNat) (k := (p + 4).toNat) (by omega) (by omega)
    have hxl : ((b.take (p + 4).toNat).drop p.toNat).length = 4 := by simp; omega
    rw [hxl]
    generalize hxs : (b.take (p + 4).toNat).drop p.toNat = xs at hs hxl
    refine loop (X := Int × UInt64) (fun x : Int × UInt64 => (0 ≤ x.1 ∧ x.1 ≤ 4) ∧ (x.2 = numB (xs.take x.1.toNat))) (fun x : Int × UInt64 => [(7, true, U64 x.2), (26, true, subS u8E.size u p.toNat (p + 4).toNat), (27, true, I 4), (28, true, I x.1)]) (fun x : Int × UInt64 => []) (fun x : Int × UInt64 => (4 - x.1).toNat) (0, _) ⟨?_, ?_⟩ (by repeat first | exact Sub.nil | refine Sub.cons rfl ?_) (by repeat first | exact List.Sublist.refl _ | apply List.Sublist.cons_cons | apply List.Sublist.cons) (fun x hx => ?_)
    · omega
    · rfl
    obtain ⟨i, v⟩ := x
    obtain ⟨hi, hv⟩ : (0 ≤ i ∧ i ≤ 4) ∧ (v = numB (xs.take i.toNat)) := hx
    show Sat _ _ [(7, true, U64 v), (26, true, subS u8E.size u p.toNat (p + 4).toNat), (27, true, I 4), (28, true, I i)] []
    refine seq ?_
    refine region ?_
    refine cons (opv (Ev.lss_i (.t rfl) (.t rfl)) ?_)
    refine nil ?_
    refine pN ?_
    refine seq ?_
    first | refine condD rfl (fun h1 => ?_) (fun h1 => ?_) | refine cond rfl (fun h1 => ?_) (fun h1 => ?_)
    · try simp only [Bool.and_eq_true, Bool.or_eq_true, Bool.or_eq_false_iff, Bool.and_eq_false_iff, Bool.not_eq_true', Bool.not_eq_false', decide_eq_true_eq, decide_eq_false_iff_not, Decidable.not_not] at h1
      refine skip ?_
      refine pN ?_
      refine seq ?_
      refine block ?_
      refine seq ?_
      refine region ?_
      refine cons (opv (Ev.indexAddr Try.underlying22 ty5 (.t rfl) (.t rfl) (fun w I => hs.keep0 I.keeps) (fun _ => by omega)) ?_)
      refine cons (opv (Ev.loadS0 ty5 (.t rfl) (fun w I => hs.keep0 I.keeps) (fun _ => by omega)) ?_)
      refine cons (opv (Ev.assign (.t rfl)) ?_)
      refine nil ?_
      refine pN ?_
      refine seq ?_
      refine region ?_
      refine cons (opv (Ev.move (.t rfl)) ?_)
      refine cons (opv (Ev.shl_u64 (.t rfl) (.c rfl) (fun _ => by decide)) ?_)
      refine cons (opv (Ev.assign (.t rfl)) ?_)
      refine nil ?_
      refine pN ?_
      refine region ?_
      refine cons (opv (Ev.move (.t rfl)) ?_)
      refine cons (opv (Ev.move (.t rfl)) ?_)
      refine cons (opv (Ev.conv_u8_u64 Try.underlying23 Try.underlying5 (.t rfl)) ?_)
      refine cons (opv (Ev.or_u64 (.t rfl) (.t rfl)) ?_)
      refine cons (opv (Ev.assign (.t rfl)) ?_)
      refine nil ?_
      refine bN ?_
      refine pN ?_
      refine region ?_
      refine cons (opv (Ev.add_i (.t rfl) (.c (v := I 1) rfl) (fun _ => by omega)) ?_)
      refine cons (opv (Ev.move (.t rfl)) ?_)
      refine nil ?_
      refine pN ?_
      refine next (X := Int × UInt64) (i + 1, _) ⟨?_, ?_⟩ ?_ (by repeat first | exact Sub.nil | refine Sub.cons rfl ?_) (by repeat first | exact List.Sublist.refl _ | apply List.Sublist.cons_cons | apply List.Sublist.cons)
      · try dsimp only
        omega
      · try dsimp only
        rw [numB_step xs i hi.1 (by omega), ← or_byte, ← hv]
        rfl
      · try dsimp only
        omega
    · try simp only [Bool.and_eq_true, Bool.or_eq_true, Bool.or_eq_false_iff, Bool.and_eq_false_iff, Bool.not_eq_true', Bool.not_eq_false', decide_eq_true_eq, decide_eq_false_iff_not, Decidable.not_not] at h1
      refine exit ?_
      refine pX ?_
      refine pX ?_
      refine bX ?_
      refine pN ?_
      refine seq ?_
      refine region ?_
      refine cons (opv (Ev.move (.t rfl)) ?_)
      refine cons (opv (Ev.conv_u64_u32 Try.underlying29 Try.underlying23 (.t rfl)) ?_)
      refine cons (opv (Ev.assign (.t rfl)) ?_)
      refine cons (opv (Ev.assign (.c (v := I 0) rfl)) ?_)
      refine nil ?_
      refine pN ?_
      refine ret ?_
      refine done rfl (.tmp rfl (.tmp rfl .nil)) (retE ?_)
      first
        | (have e : ¬ (0 ≤ p ∧ p + (4 : Nat) ≤ b.length) := by omega
           unfold takeB; rw [if_neg e]; rfl)
        | (have e : 0 ≤ p ∧ p + (4 : Nat) ≤ b.length := by omega
           have ei : i.toNat = 4 := by omega
           rw [ei, List.take_of_length_le (by omega)] at hv
           unfold takeB; rw [if_pos e]
           have hxs' : (b.take (p + (4 : Nat)).toNat).drop p.toNat = xs := hxs
           rw [hxs', ← hv]; rfl)

theorem take_uint64_ok (u : Value) (b : List UInt8) (p : Int) (w : World) (hb : IsSl u8E w u b) : Calls Try.prog 26 #[u, I p] w (RetV w (.tuple #[U64 (takeB b p 8).1, I (takeB b p 8).2])) := by
  have hbl := hb.le
  refine enter0 40 Try.func26 rfl rfl (Nat.le_of_ble_eq_true rfl) ?_
  refine seq ?_
  refine region ?_
  refine cons (opv (Ev.assign (.c (v := U64 0) rfl)) ?_)
  refine cons (opv (Ev.assign (.c (v := I 0) rfl)) ?_)
  refine nil ?_
  refine pN ?_
  refine seq ?_
  refine region ?_
  refine cons (callv en41 .nil (fun w I => width_uint64_ok w) ?_)
  refine cons (opv (Ev.assign (.t rfl)) ?_)
  refine nil ?_
  refine pN ?_
  refine seq ?_
  refine seq ?_
  refine region ?_
  refine cons (opv (Ev.move (.t rfl)) ?_)
  refine cons (opv (Ev.lss_i (.t rfl) (.c (v := I 0) rfl)) ?_)
  refine cons (opv (Ev.move (.t rfl)) ?_)
  refine cons (opg rfl rfl (Ev.move (.t rfl)) ?_)
  refine cons (opg rfl rfl (Ev.move (.t rfl)) ?_)
  refine cons (opg rfl rfl (Ev.len Try.underlying22 (.g rfl id) (by first | exact isSl_own (by repeat first | exact List.Mem.head _ | apply List.Mem.tail) | exact fun w I => IsSl.keep0 (by assumption) I.keeps)) ?_)
  refine cons (opg rfl rfl (Ev.move (.t rfl)) ?_)
  refine cons (opg rfl rfl (Ev.sub_i (.g rfl id) (.g rfl id) (fun _ => by first | omega | (rename_i hg; simp at hg; omega))) ?_)
  refine cons (opg rfl rfl (Ev.gtr_i (.g rfl id) (.g rfl id)) ?_)
  refine cons (opv (Ev.pickO (.t rfl) (.c (v := .bool true) rfl) (fun {_} h => by cases h; rfl) ⟨_, rfl⟩ (by intro h1 h; first | (rw [h] <;> rfl) | (rw [h, h1] <;> rfl) | simp_all)) ?_)
  refine nil ?_
  refine pN ?_
  first | refine condD rfl (fun h0 => ?_) (fun h0 => ?_) | refine cond rfl (fun h0 => ?_) (fun h0 => ?_)
  · try simp only [Bool.and_eq_true, Bool.or_eq_true, Bool.or_eq_false_iff, Bool.and_eq_false_iff, Bool.not_eq_true', Bool.not_eq_false', decide_eq_true_eq, decide_eq_false_iff_not, Decidable.not_not] at h0
    refine seq ?_
    refine region ?_
    refine cons (opv (Ev.assign (.c (v := U64 0) rfl)) ?_)
    refine cons (opv (Ev.assign (.c (v := I 5) rfl)) ?_)
    refine nil ?_
    refine pN ?_
    refine ret ?_
    refine pR ?_
    refine done rfl (.tmp rfl (.tmp rfl .nil)) (retE ?_)
    first
      | (have e : ¬ (0 ≤ p ∧ p + (8 : Nat) ≤ b.length) := by omega
         unfold takeB; rw [if_neg e]; rfl)
      | (have e : 0 ≤ p ∧ p + (8 : Nat) ≤ b.length := by omega
         have ei : i.toNat = 8 := by omega
         rw [ei, List.take_of_length_le (by omega)] at hv
         unfold takeB; rw [if_pos e]
         have hxs' : (b.take (p + (8 : Nat)).toNat).drop p.toNat = xs := hxs
         rw [hxs', ← hv]; rfl)
  · try simp only [Bool.and_eq_true, Bool.or_eq_true, Bool.or_eq_false_iff, Bool.and_eq_false_iff, Bool.not_eq_true', Bool.not_eq_false', decide_eq_true_eq, decide_eq_false_iff_not, Decidable.not_not] at h0
    refine skip ?_
    refine pN ?_
    refine seq ?_
    refine region ?_
    refine cons (opv (Ev.assign (.c (v := U64 0) rfl)) ?_)
    refine nil ?_
    refine pN ?_
    refine seq ?_
    refine seq ?_
    refine region ?_
    refine cons (opv (Ev.move (.t rfl)) ?_)
    refine cons (opv (Ev.move (.t rfl)) ?_)
    refine cons (opv (Ev.move (.t rfl)) ?_)
    refine cons (opv (Ev.move (.t rfl)) ?_)
    refine cons (opv (Ev.add_i (.t rfl) (.t rfl) (fun _ => by omega)) ?_)
    refine cons (opv (Ev.slice Try.underlying22 ty5 (.t rfl) (.t rfl) (.t rfl) (by first | exact isSl_own (by repeat first | exact List.Mem.head _ | apply List.Mem.tail) | exact fun w I => IsSl.keep0 (by assumption) I.keeps) (fun _ => by omega)) ?_)
    refine cons (opv (Ev.len Try.underlying22 (.t rfl) (fun w I => IsSl.sub (w := w) (by first | exact isSl_own (by repeat first | exact List.Mem.head _ | apply List.Mem.tail) w I | exact IsSl.keep0 (by assumption) I.keeps) (by omega) (by omega))) ?_)
    refine cons (opv (Ev.move (.c (v := I 0) rfl)) ?_)
    refine nil ?_
    refine pN ?_
    refine block ?_
    have hs := hb.sub (l := p.toNat) (k := (p + 8).toNat) (by omega) (by omega)
    have hxl : ((b.take (p + 8).toNat).drop p.toNat).length = 8 := by simp; omega
    rw [hxl]
    generalize hxs : (b.take (p + 8).toNat).drop p.toNat = xs at hs hxl
    refine loop (X := Int × UInt64) (fun x : Int × UInt64 => (0 ≤ x.1 ∧ x.1 ≤ 8) ∧ (x.2 = numB (xs.take x.1.toNat))) (fun x : Int × UInt64 => [(7, true, U64 x.2), (26, true, subS u8E.size u p.toNat (p + 8).toNat), (27, true, I 8), (28, true, I x.1)]) (fun x : Int × UInt64 => []) (fun x : Int × UInt64 => (8 - x.1).toNat) (0, _) ⟨?_, ?_⟩ (by repeat first | exact Sub.nil | refine Sub.cons rfl ?_) (by repeat first | exact List.Sublist.refl _ | apply List.Sublist.cons_cons | apply List.Sublist.cons) (fun x hx => ?_)
    · omega
    · rfl
    obtain ⟨i, v⟩ := x
    obtain ⟨hi, hv⟩ : (0 ≤ i ∧ i ≤ 8) ∧ (v = numB (xs.take i.toNat)) := hx
    show Sat _ _ [(7, true, U64 v), (26, true, subS u8E.size u p.toNat (p + 8).toNat), (27, true, I 8), (28, true, I i)] []
    refine seq ?_
    refine region ?_
    refine cons (opv (Ev.lss_i (.t rfl) (.t rfl)) ?_)
    refine nil ?_
    refine pN ?_
    refine seq ?_
    first | refine condD rfl (fun h1 => ?_) (fun h1 => ?_) | refine cond rfl (fun h1 => ?_) (fun h1 => ?_)
    · try simp only [Bool.and_eq_true, Bool.or_eq_true, Bool.or_eq_false_iff, Bool.and_eq_false_iff, Bool.not_eq_true', Bool.not_eq_false', decide_eq_true_eq, decide_eq_false_iff_not, Decidable.not_not] at h1
      refine skip ?_
      refine pN ?_
      refine seq ?_
      refine block ?_
      refine seq ?_
      refine region ?_
      refine cons (opv (Ev.indexAddr Try.underlying22 ty5 (.t rfl) (.t rfl) (fun w I => hs.keep0 I.keeps) (fun _ => by omega)) ?_)
      refine cons (opv (Ev.loadS0 ty5 (.t rfl) (fun w I => hs.keep0 I.keeps) (fun _ => by omega)) ?_)
      refine cons (opv (Ev.assign (.t rfl)) ?_)
      refine nil ?_
      refine pN ?_
      refine seq ?_
      refine region ?_
      refine cons (opv (Ev.move (.t rfl)) ?_)
      refine cons (opv (Ev.shl_u64 (.t rfl) (.c rfl) (fun _ => by decide)) ?_)
      refine cons (opv (Ev.assign (.t rfl)) ?_)
      refine nil ?_
      refine pN ?_
      refine region ?_
      refine cons (opv (Ev.move (.t rfl)) ?_)
      refine cons (opv (Ev.move (.t rfl)) ?_)
      refine cons (opv (Ev.conv_u8_u64 Try.underlying23 Try.underlying5 (.t rfl)) ?_)
      refine cons (opv (Ev.or_u64 (.t rfl) (.t rfl)) ?_)
      refine cons (opv (Ev.assign (.t rfl)) ?_)
      refine nil ?_
      refine bN ?_
      refine pN ?_
      refine region ?_
      refine cons (opv (Ev.add_i (.t rfl) (.c (v := I 1) rfl) (fun _ => by omega)) ?_)
      refine cons (opv (Ev.move (.t rfl)) ?_)
      refine nil ?_
      refine pN ?_
      refine next (X := Int × UInt64) (i + 1, _) ⟨?_, ?_⟩ ?_ (by repeat first | exact Sub.nil | refine Sub.cons rfl ?_) (by repeat first | exact List.Sublist.refl _ | apply List.Sublist.cons_cons | apply List.Sublist.cons)
      · try dsimp only
        omega
      · try dsimp only
        rw [numB_step xs i hi.1 (by omega), ← or_byte, ← hv]
        rfl
      · try dsimp only
        omega
    · try simp only [Bool.and_eq_true, Bool.or_eq_true, Bool.or_eq_false_iff, Bool.and_eq_false_iff, Bool.not_eq_true', Bool.not_eq_false', decide_eq_true_eq, decide_eq_false_iff_not, Decidable.not_not] at h1
      refine exit ?_
      refine pX ?_
      refine pX ?_
      refine bX ?_
      refine pN ?_
      refine seq ?_
      refine region ?_
      refine cons (opv (Ev.move (.t rfl)) ?_)
      refine cons (opv (Ev.assign (.t rfl)) ?_)
      refine cons (opv (Ev.assign (.c (v := I 0) rfl)) ?_)
      refine nil ?_
      refine pN ?_
      refine ret ?_
      refine done rfl (.tmp rfl (.tmp rfl .nil)) (retE ?_)
      first
        | (have e : ¬ (0 ≤ p ∧ p + (8 : Nat) ≤ b.length) := by omega
           unfold takeB; rw [if_neg e]; rfl)
        | (have e : 0 ≤ p ∧ p + (8 : Nat) ≤ b.length := by omega
           have ei : i.toNat = 8 := by omega
           rw [ei, List.take_of_length_le (by omega)] at hv
           unfold takeB; rw [if_pos e]
           have hxs' : (b.take (p + (8 : Nat)).toNat).drop p.toNat = xs := hxs
           rw [hxs', ← hv]; rfl)

theorem take_own_ok (u : Value) (b : List UInt8) (p : Int) (w : World) (hb : IsSl u8E w u b) : Calls Try.prog 27 #[u, I p] w (RetV w (.tuple #[U16 (takeB b p 2).1.toUInt16, I (takeB b p 2).2])) := by
  have hbl := hb.le
  refine enter0 41 Try.func27 rfl rfl (Nat.le_of_ble_eq_true rfl) ?_
  refine seq ?_
  refine region ?_
  refine cons (opv (Ev.assign (.c (v := U16 0) rfl)) ?_)
  refine cons (opv (Ev.assign (.c (v := I 0) rfl)) ?_)
  refine nil ?_
  refine pN ?_
  refine seq ?_
  refine region ?_
  refine cons (callv en42 .nil (fun w I => width_own_ok w) ?_)
  refine cons (opv (Ev.assign (.t rfl)) ?_)
  refine nil ?_
  refine pN ?_
  refine seq ?_
  refine seq ?_
  refine region ?_
  refine cons (opv (Ev.move (.t rfl)) ?_)
  refine cons (opv (Ev.lss_i (.t rfl) (.c (v := I 0) rfl)) ?_)
  refine cons (opv (Ev.move (.t rfl)) ?_)
  refine cons (opg rfl rfl (Ev.move (.t rfl)) ?_)
  refine cons (opg rfl rfl (Ev.move (.t rfl)) ?_)
  refine cons (opg rfl rfl (Ev.len Try.underlying22 (.g rfl id) (by first | exact isSl_own (by repeat first | exact List.Mem.head _ | apply List.Mem.tail) | exact fun w I => IsSl.keep0 (by assumption) I.keeps)) ?_)
  refine cons (opg rfl rfl (Ev.move (.t rfl)) ?_)
  refine cons (opg rfl rfl (Ev.sub_i (.g rfl id) (.g rfl id) (fun _ => by first | omega | (rename_i hg; simp at hg; omega))) ?_)
  refine cons (opg rfl rfl (Ev.gtr_i (.g rfl id) (.g rfl id)) ?_)
  refine cons (opv (Ev.pickO (.t rfl) (.c (v := .bool true) rfl) (fun {_} h => by cases h; rfl) ⟨_, rfl⟩ (by intro h1 h; first | (rw [h] <;> rfl) | (rw [h, h1] <;> rfl) | simp_all)) ?_)
  refine nil ?_
  refine pN ?_
  first | refine condD rfl (fun h0 => ?_) (fun h0 => ?_) | refine cond rfl (fun h0 => ?_) (fun h0 => ?_)
  · try simp only [Bool.and_eq_true, Bool.or_eq_true, Bool.or_eq_false_iff, Bool.and_eq_false_iff, Bool.not_eq_true', Bool.not_eq_false', decide_eq_true_eq, decide_eq_false_iff_not, Decidable.not_not] at h0
    refine seq ?_
    refine region ?_
    refine cons (opv (Ev.assign (.c (v := U16 0) rfl)) ?_)
    refine cons (opv (Ev.assign (.c (v := I 5) rfl)) ?_)
    refine nil ?_
    refine pN ?_
    refine ret ?_
    refine pR ?_
    refine done rfl (.tmp rfl (.tmp rfl .nil)) (retE ?_)
    first
      | (have e : ¬ (0 ≤ p ∧ p + (2 : Nat) ≤ b.length) := by omega
         unfold takeB; rw [if_neg e]; rfl)
      | (have e : 0 ≤ p ∧ p + (2 : Nat) ≤ b.length := by omega
         have ei : i.toNat = 2 := by omega
         rw [ei, List.take_of_length_le (by omega)] at hv
         unfold takeB; rw [if_pos e]
         have hxs' : (b.take (p + (2 : Nat)).toNat).drop p.toNat = xs := hxs
         rw [hxs', ← hv]; rfl)
  · try simp only [Bool.and_eq_true, Bool.or_eq_true, Bool.or_eq_false_iff, Bool.and_eq_false_iff, Bool.not_eq_true', Bool.not_eq_false', decide_eq_true_eq, decide_eq_false_iff_not, Decidable.not_not] at h0
    refine skip ?_
    refine pN ?_
    refine seq ?_
    refine region ?_
    refine cons (opv (Ev.assign (.c (v := U64 0) rfl)) ?_)
    refine nil ?_
    refine pN ?_
    refine seq ?_
    refine seq ?_
    refine region ?_
    refine cons (opv (Ev.move (.t rfl)) ?_)
    refine cons (opv (Ev.move (.t rfl)) ?_)
    refine cons (opv (Ev.move (.t rfl)) ?_)
    refine cons (opv (Ev.move (.t rfl)) ?_)
    refine cons (opv (Ev.add_i (.t rfl) (.t rfl) (fun _ => by omega)) ?_)
    refine cons (opv (Ev.slice Try.underlying22 ty5 (.t rfl) (.t rfl) (.t rfl) (by first | exact isSl_own (by repeat first | exact List.Mem.head _ | apply List.Mem.tail) | exact fun w I => IsSl.keep0 (by assumption) I.keeps) (fun _ => by omega)) ?_)
    refine cons (opv (Ev.len Try.underlying22 (.t rfl) (fun w I => IsSl.sub (w := w) (by first | exact isSl_own (by repeat first | exact List.Mem.head _ | apply List.Mem.tail) w I | exact IsSl.keep0 (by assumption) I.keeps) (by omega) (by omega))) ?_)
    refine cons (opv (Ev.move (.c (v := I 0) rfl)) ?_)
    refine nil ?_
    refine pN ?_
    refine block ?_
    have hs := hb.sub (l := p.toNat) (k := (p + 2).toNat) (by omega) (by omega)
    have hxl : ((b.take (p + 2).toNat).drop p.toNat).length = 2 := by simp; omega
    rw [hxl]
    generalize hxs : (b.take (p + 2).toNat).drop p.toNat = xs at hs hxl
    refine loop (X := Int × UInt64) (fun x : Int × UInt64 => (0 ≤ x.1 ∧ x.1 ≤ 2) ∧ (x.2 = numB (xs.take x.1.toNat))) (fun x : Int × UInt64 => [(7, true, U64 x.2), (26, true, subS u8E.size u p.toNat (p + 2).toNat), (27, true, I 2), (28, true, I x.1)]) (fun x : Int × UInt64 => []) (fun x : Int × UInt64 => (2 - x.1).toNat) (0, _) ⟨?_, ?_⟩ (by repeat first | exact Sub.nil | refine Sub.cons rfl ?_) (by repeat first | exact List.Sublist.refl _ | apply List.Sublist.cons_cons | apply List.Sublist.cons) (fun x hx => ?_)
    · omega
    · rfl
    obtain ⟨i, v⟩ := x
    obtain ⟨hi, hv⟩ : (0 ≤ i ∧ i ≤ 2) ∧ (v = numB (xs.take i.toNat)) := hx
    show Sat _ _ [(7, true, U64 v), (26, true, subS u8E.size u p.toNat (p + 2).toNat), (27, true, I 2), (28, true, I i)] []
    refine seq ?_
    refine region ?_
    refine cons (opv (Ev.lss_i (.t rfl) (.t rfl)) ?_)
    refine nil ?_
    refine pN ?_
    refine seq ?_
    first | refine condD rfl (fun h1 => ?_) (fun h1 => ?_) | refine cond rfl (fun h1 => ?_) (fun h1 => ?_)
    · try simp only [Bool.and_eq_true, Bool.or_eq_true, Bool.or_eq_false_iff, Bool.and_eq_false_iff, Bool.not_eq_true', Bool.not_eq_false', decide_eq_true_eq, decide_eq_false_iff_not, Decidable.not_not] at h1
      refine skip ?_
      refine pN ?_
      refine seq ?_
      refine block ?_
      refine seq ?_
      refine region ?_
      refine cons (opv (Ev.indexAddr Try.underlying22 ty5 (.t rfl) (.t rfl) (fun w I => hs.keep0 I.keeps) (fun _ => by omega)) ?_)
      refine cons (opv (Ev.loadS0 ty5 (.t rfl) (fun w I => hs.keep0 I.keeps) (fun _ => by omega)) ?_)
      refine cons (opv (Ev.assign (.t rfl)) ?_)
      refine nil ?_
      refine pN ?_
      refine seq ?_
      refine region ?_
      refine cons (opv (Ev.move (.t rfl)) ?_)
      refine cons (opv (Ev.shl_u64 (.t rfl) (.c rfl) (fun _ => by decide)) ?_)
      refine cons (opv (Ev.assign (.t rfl)) ?_)
      refine nil ?_
      refine pN ?_
      refine region ?_
      refine cons (opv (Ev.move (.t rfl)) ?_)
      refine cons (opv (Ev.move (.t rfl)) ?_)
      refine cons (opv (Ev.conv_u8_u64 Try.underlying23 Try.underlying5 (.t rfl)) ?_)
      refine cons (opv (Ev.or_u64 (.t rfl) (.t rfl)) ?_)
      refine cons (opv (Ev.assign (.t rfl)) ?_)
      refine nil ?_
      refine bN ?_
      refine pN ?_
      refine region ?_
      refine cons (opv (Ev.add_i (.t rfl) (.c (v := I 1) rfl) (fun _ => by omega)) ?_)
      refine cons (opv (Ev.move (.t rfl)) ?_)
      refine nil ?_
      refine pN ?_
      refine next (X := Int × UInt64) (i + 1, _) ⟨?_, ?_⟩ ?_ (by repeat first | exact Sub.nil | refine Sub.cons rfl ?_) (by repeat first | exact List.Sublist.refl _ | apply List.Sublist.cons_cons | apply List.Sublist.cons)
      · try dsimp only
        omega
      · try dsimp only
        rw [numB_step xs i hi.1 (by omega), ← or_byte, ← hv]
        rfl
      · try dsimp only
        omega
    · try simp only [Bool.and_eq_true, Bool.or_eq_true, Bool.or_eq_false_iff, Bool.and_eq_false_iff, Bool.not_eq_true', Bool.not_eq_false', decide_eq_true_eq, decide_eq_false_iff_not, Decidable.not_not] at h1
      refine exit ?_
      refine pX ?_
      refine pX ?_
      refine bX ?_
      refine pN ?_
      refine seq ?_
      refine region ?_
      refine cons (opv (Ev.move (.t rfl)) ?_)
      refine cons (opv (Ev.conv_u64_u16 Try.underlying32 Try.underlying23 (.t rfl)) ?_)
      refine cons (opv (Ev.assign (.t rfl)) ?_)
      refine cons (opv (Ev.assign (.c (v := I 0) rfl)) ?_)
      refine nil ?_
      refine pN ?_
      refine ret ?_
      refine done rfl (.tmp rfl (.tmp rfl .nil)) (retE ?_)
      first
        | (have e : ¬ (0 ≤ p ∧ p + (2 : Nat) ≤ b.length) := by omega
           unfold takeB; rw [if_neg e]; rfl)
        | (have e : 0 ≤ p ∧ p + (2 : Nat) ≤ b.length := by omega
           have ei : i.toNat = 2 := by omega
           rw [ei, List.take_of_length_le (by omega)] at hv
           unfold takeB; rw [if_pos e]
           have hxs' : (b.take (p + (2 : Nat)).toNat).drop p.toNat = xs := hxs
           rw [hxs', ← hv]; rfl)

theorem number_ok (u : Value) (b : List UInt8) (w : World) (hb : IsSl u8E w u b) : Calls Try.prog 44 #[u] w (RetV w (U64 (numB b))) := by
  have hbl := hb.le
  refine enter0 20 Try.func44 rfl rfl (Nat.le_of_ble_eq_true rfl) ?_
  refine seq ?_
  refine region ?_
  refine cons (opv (Ev.assign (.c (v := U64 0) rfl)) ?_)
  refine nil ?_
  refine pN ?_
  refine seq ?_
  refine region ?_
  refine cons (opv (Ev.assign (.c (v := U64 0) rfl)) ?_)
  refine nil ?_
  refine pN ?_
  refine seq ?_
  refine seq ?_
  refine region ?_
  refine cons (opv (Ev.assign (.c (v := I 0) rfl)) ?_)
  refine nil ?_
  refine pN ?_
  refine block ?_
  refine loop (X := Int × UInt64) (fun x : Int × UInt64 => (0 ≤ x.1 ∧ x.1 ≤ b.length) ∧ (x.2 = numB (b.take x.1.toNat))) (fun x : Int × UInt64 => [(0, true, u), (3, true, U64 x.2), (4, true, I x.1)]) (fun x : Int × UInt64 => []) (fun x : Int × UInt64 => (b.length - x.1).toNat) (0, _) ⟨?_, ?_⟩ (by repeat first | exact Sub.nil | refine Sub.cons rfl ?_) (by repeat first | exact List.Sublist.refl _ | apply List.Sublist.cons_cons | apply List.Sublist.cons) (fun x hx => ?_)
  · omega
  · rfl
  obtain ⟨i, v⟩ := x
  obtain ⟨hi, hv⟩ : (0 ≤ i ∧ i ≤ b.length) ∧ (v = numB (b.take i.toNat)) := hx
  show Sat _ _ [(0, true, u), (3, true, U64 v), (4, true, I i)] []
  refine seq ?_
  refine seq ?_
  refine region ?_
  refine cons (opv (Ev.move (.t rfl)) ?_)
  refine cons (opv (Ev.move (.t rfl)) ?_)
  refine cons (opv (Ev.len Try.underlying22 (.t rfl) (by first | exact isSl_own (by repeat first | exact List.Mem.head _ | apply List.Mem.tail) | exact fun w I => IsSl.keep0 (by assumption) I.keeps)) ?_)
  refine cons (opv (Ev.lss_i (.t rfl) (.t rfl)) ?_)
  refine nil ?_
  refine pN ?_
  first | refine condD rfl (fun hlt => ?_) (fun hge => ?_) | refine cond rfl (fun hlt => ?_) (fun hge => ?_)
  · try simp only [Bool.and_eq_true, Bool.or_eq_true, Bool.or_eq_false_iff, Bool.and_eq_false_iff, Bool.not_eq_true', Bool.not_eq_false', decide_eq_true_eq, decide_eq_false_iff_not, Decidable.not_not] at hlt
    refine skip ?_
    refine pN ?_
    refine seq ?_
    refine block ?_
    refine region ?_
    refine cons (opv (Ev.move (.t rfl)) ?_)
    refine cons (opv (Ev.mul_u64 (.t rfl) (.c (v := U64 256) rfl)) ?_)
    refine cons (opv (Ev.move (.t rfl)) ?_)
    refine cons (opv (Ev.move (.t rfl)) ?_)
    refine cons (opv (Ev.indexAddr Try.underlying22 ty5 (.t rfl) (.t rfl) (by first | exact isSl_own (by repeat first | exact List.Mem.head _ | apply List.Mem.tail) | exact fun w I => IsSl.keep0 (by assumption) I.keeps) (fun _ => by omega)) ?_)
    refine cons (opv (Ev.loadS0 ty5 (.t rfl) (by first | exact isSl_own (by repeat first | exact List.Mem.head _ | apply List.Mem.tail) | exact fun w I => IsSl.keep0 (by assumption) I.keeps) (fun _ => by omega)) ?_)
    refine cons (opv (Ev.conv_u8_u64 Try.underlying23 Try.underlying5 (.t rfl)) ?_)
    refine cons (opv (Ev.add_u64 (.t rfl) (.t rfl)) ?_)
    refine cons (opv (Ev.assign (.t rfl)) ?_)
    refine nil ?_
    refine bN ?_
    refine pN ?_
    refine region ?_
    refine cons (opv (Ev.move (.t rfl)) ?_)
    refine cons (opv (Ev.add_i (.t rfl) (.c (v := I 1) rfl) (fun _ => by omega)) ?_)
    refine cons (opv (Ev.assign (.t rfl)) ?_)
    refine nil ?_
    refine pN ?_
    refine next (X := Int × UInt64) (i + 1, _) ⟨?_, ?_⟩ ?_ (by repeat first | exact Sub.nil | refine Sub.cons rfl ?_) (by repeat first | exact List.Sublist.refl _ | apply List.Sublist.cons_cons | apply List.Sublist.cons)
    · try dsimp only
      omega
    · try dsimp only
      rw [numB_step b i hi.1 (by omega), ← hv]
      rfl
    · try dsimp only
      omega
  · try simp only [Bool.and_eq_true, Bool.or_eq_true, Bool.or_eq_false_iff, Bool.and_eq_false_iff, Bool.not_eq_true', Bool.not_eq_false', decide_eq_true_eq, decide_eq_false_iff_not, Decidable.not_not] at hge
    refine exit ?_
    refine pX ?_
    refine pX ?_
    refine bX ?_
    refine pN ?_
    refine seq ?_
    refine region ?_
    refine cons (opv (Ev.move (.t rfl)) ?_)
    refine cons (opv (Ev.assign (.t rfl)) ?_)
    refine nil ?_
    refine pN ?_
    refine ret ?_
    refine done rfl (.tmp rfl .nil) (retE ?_)
    have ei : i.toNat = b.length := by omega
    rw [ei, List.take_length] at hv
    rw [hv]; rfl

theorem stands_ok (u : Value) (b : List UInt8) (p n : Int) (w : World) (hb : IsSl u8E w u b) (hp : Fit p) (hn : Fit n) : Calls Try.prog 43 #[u, I p, I n] w (RetV w (.bool (decide (0 ≤ p ∧ p ≤ b.length ∧ n ≤ b.length - p)))) := by
  have hbl := hb.le
  unfold Fit at hp hn
  refine enter0 23 Try.func43 rfl rfl (Nat.le_of_ble_eq_true rfl) ?_
  refine seq ?_
  refine region ?_
  refine cons (opv (Ev.assign (.c (v := .bool false) rfl)) ?_)
  refine nil ?_
  refine pN ?_
  refine seq ?_
  refine region ?_
  refine cons (opv (Ev.move (.t rfl)) ?_)
  refine cons (opv (Ev.geq_i (.t rfl) (.c (v := I 0) rfl)) ?_)
  refine cons (opv (Ev.move (.t rfl)) ?_)
  refine cons (opg rfl rfl (Ev.move (.t rfl)) ?_)
  refine cons (opg rfl rfl (Ev.move (.t rfl)) ?_)
  refine cons (opg rfl rfl (Ev.len Try.underlying22 (.g rfl id) (by first | exact isSl_own (by repeat first | exact List.Mem.head _ | apply List.Mem.tail) | exact fun w I => IsSl.keep0 (by assumption) I.keeps)) ?_)
  refine cons (opg rfl rfl (Ev.leq_i (.g rfl id) (.g rfl id)) ?_)
  refine cons (opv (Ev.pickA (.t rfl) (fun {_} h => by cases h; rfl) ⟨_, rfl⟩ (by intro h1 h; first | (rw [h] <;> rfl) | (rw [h, h1] <;> rfl) | simp_all) (.c (v := .bool false) rfl)) ?_)
  refine cons (opv (Ev.move (.t rfl)) ?_)
  refine cons (opg rfl rfl (Ev.move (.t rfl)) ?_)
  refine cons (opg rfl rfl (Ev.move (.t rfl)) ?_)
  refine cons (opg rfl rfl (Ev.len Try.underlying22 (.g rfl id) (by first | exact isSl_own (by repeat first | exact List.Mem.head _ | apply List.Mem.tail) | exact fun w I => IsSl.keep0 (by assumption) I.keeps)) ?_)
  refine cons (opg rfl rfl (Ev.move (.t rfl)) ?_)
  refine cons (opg rfl rfl (Ev.sub_i (.g rfl id) (.g rfl id) (fun _ => by rename_i hg; simp at hg; omega)) ?_)
  refine cons (opg rfl rfl (Ev.leq_i (.g rfl id) (.g rfl id)) ?_)
  refine cons (opv (Ev.pickA (.t rfl) (fun {_} h => by cases h; rfl) ⟨_, rfl⟩ (by intro h1 h; first | (rw [h] <;> rfl) | (rw [h, h1] <;> rfl) | simp_all) (.c (v := .bool false) rfl)) ?_)
  refine cons (opv (Ev.assign (.t rfl)) ?_)
  refine nil ?_
  refine pN ?_
  refine ret ?_
  refine done rfl (.tmp rfl .nil) (retE ?_)
  refine bX2 ?_
  rw [Bool.eq_iff_iff]
  simp [and_assoc]
end Go.Proofs.Ytcmpdhggeilkfaa
