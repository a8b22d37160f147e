/- octets -/
import Derived.Test.YtcmpdhggeilkfaaO8
set_option linter.unusedVariables false
set_option linter.unusedSimpArgs false
namespace Go.Proofs.Ytcmpdhggeilkfaa
open Go Go.Gx

/-- The sum of numbers of 16 bits, as a number. -/
def sumN : Bool → List UInt8 → Nat
  | _, [] => 0
  | p, x :: l => x.toNat * 2 ^ sh p + sumN (!p) l
theorem sumN_le : ∀ (p : Bool) (l : List UInt8), sumN p l ≤ 65280 * l.length
  | _, [] => by simp [sumN]
  | p, x :: l => by
    have h := sumN_le (!p) l
    have hx := x.toNat_lt
    simp only [sumN, List.length_cons]
    cases p <;> simp only [sh] <;> omega
theorem sumGo_toNat : ∀ (p : Bool) (l : List UInt8) (n : UInt64), n.toNat + sumN p l < 18446744073709551616 → (sumGo p l n).toNat = n.toNat + sumN p l
  | _, [], n, _ => by simp [sumGo, sumN]
  | p, x :: l, n, h => by
    simp only [sumN] at h
    have hx := x.toNat_lt
    have e : (n + shl64 x.toUInt64 (sh p)).toNat = n.toNat + x.toNat * 2 ^ sh p := by
      rw [UInt64.toNat_add, toNat_shl64, UInt8.toNat_toUInt64]
      cases p <;> simp only [sh] at h ⊢ <;> omega
    simp only [sumGo, sumN]
    rw [sumGo_toNat (!p) l _ (by rw [e]; omega), e]
    omega
theorem sumB_eq {l : List UInt8} (h : l.length ≤ 200000000000000) : sumB l = UInt16.ofNat (65535 - foldN (sumN true l)) := by
  have h1 := sumN_le true l
  unfold sumB
  rw [sumGo_toNat true l 0 (by rw [UInt64.toNat_zero]; omega), UInt64.toNat_zero, Nat.zero_add]
theorem sumN_append : ∀ (p : Bool) (l r : List UInt8), sumN p (l ++ r) = sumN p l + sumN (p ^^ decide (l.length % 2 = 1)) r
  | p, [], r => by simp [sumN]
  | p, x :: l, r => by
    simp only [List.cons_append, sumN, List.length_cons]
    rw [sumN_append (!p) l r]
    have e : (!p ^^ decide (l.length % 2 = 1)) = (p ^^ decide ((l.length + 1) % 2 = 1)) := by
      by_cases h : l.length % 2 = 1
      · have h2 : ¬ (l.length + 1) % 2 = 1 := by omega
        simp [h, h2]
      · have h2 : (l.length + 1) % 2 = 1 := by omega
        simp [h, h2]
    rw [e]
    omega
theorem sumN_even {l : List UInt8} (h : l.length % 2 = 0) (r : List UInt8) : sumN true (l ++ r) = sumN true l + sumN true r := by
  rw [sumN_append]
  have e : (true ^^ decide (l.length % 2 = 1)) = true := by
    have h2 : ¬ l.length % 2 = 1 := by omega
    simp [h2]
  rw [e]
theorem sumN_two (x y : UInt8) : sumN true [x, y] = x.toNat * 256 + y.toNat := by simp [sumN, sh]
theorem split_two (l : List UInt8) (i : Nat) (h : i + 1 < l.length) : l = l.take i ++ [l.getD i 0, l.getD (i + 1) 0] ++ l.drop (i + 2) := by
  have h1 : l.drop i = l[i] :: l[i + 1] :: l.drop (i + 2) := by rw [List.drop_eq_getElem_cons (by omega), List.drop_eq_getElem_cons h]
  have e1 : l.getD i 0 = l[i] := by simp [List.getD, show i < l.length by omega]
  have e2 : l.getD (i + 1) 0 = l[i + 1] := by simp [List.getD, h]
  rw [e1, e2, List.append_assoc]
  show l = l.take i ++ l[i] :: l[i + 1] :: l.drop (i + 2)
  rw [← h1, List.take_append_drop]
/-- Two numbers that are the same modulo 65535, complemented: near. -/
theorem near_mod {a b : Nat} (ha : a ≤ 65535) (hb : b ≤ 65535) (h : a % 65535 = b % 65535) : nearB (UInt16.ofNat (65535 - a)) (UInt16.ofNat (65535 - b)) = true := by
  have h1 : a = b ∨ a = 0 ∧ b = 65535 ∨ a = 65535 ∧ b = 0 := by omega
  rcases h1 with rfl | ⟨rfl, rfl⟩ | ⟨rfl, rfl⟩
  · simp [nearB]
  · decide
  · decide
theorem foldN_mod (m : Nat) : foldN m % 65535 = m % 65535 := by
  unfold foldN
  split <;> omega
theorem upd_near {s : UInt16} {S A : Nat} (hs : s = UInt16.ofNat (65535 - S)) (hS : S ≤ 65535) (o' n' : UInt16) (hA : (S + 65535 - o'.toNat + n'.toNat) % 65535 = A % 65535) : nearB (updB s o' n') (UInt16.ofNat (65535 - foldN A)) = true ∧ ∃ S', updB s o' n' = UInt16.ofNat (65535 - S') ∧ S' ≤ 65535 ∧ S' % 65535 = A % 65535 := by
  have ho := o'.toNat_lt
  have e : s.toNat = 65535 - S := by rw [hs, UInt16.toNat_ofNat']; omega
  have e2 : 65535 - s.toNat + (65535 - o'.toNat) + n'.toNat = S + 65535 - o'.toNat + n'.toNat := by omega
  have e3 := foldN_mod (S + 65535 - o'.toNat + n'.toNat)
  have e4 := foldN_mod A
  unfold updB
  rw [e2]
  exact ⟨near_mod (foldN_le _) (foldN_le _) (by omega), _, rfl, foldN_le _, by omega⟩
theorem take2_val (b : List UInt8) (t : Nat) (h : t + 1 < b.length) : (takeB b t 2).1.toUInt16.toNat = (b.getD t 0).toNat * 256 + (b.getD (t + 1) 0).toNat := by
  unfold takeB
  rw [if_pos (by omega)]
  have e : (b.take ((t : Int) + (2 : Nat)).toNat).drop (t : Int).toNat = [b.getD t 0, b.getD (t + 1) 0] := by
    have e1 : ((t : Int) + (2 : Nat)).toNat = t + 2 := by omega
    have e2 : (t : Int).toNat = t := by omega
    rw [e1, e2]
    have h3 : b.take (t + 2) = b.take t ++ [b.getD t 0, b.getD (t + 1) 0] := by
      rw [show t + 2 = (t + 1) + 1 from rfl, List.take_succ_eq_append_getElem h, List.take_succ_eq_append_getElem (by omega), List.append_assoc]
      simp [List.getD, h, show t < b.length by omega]
    have h4 : (b.take t).length = t := by simp; omega
    rw [h3, List.drop_append_of_le_length (by omega), List.drop_eq_nil_of_le (by omega), List.nil_append]
  have h1 := (b.getD t 0).toNat_lt
  have h2 := (b.getD (t + 1) 0).toNat_lt
  rw [e]
  simp only [numB, List.foldl_cons, List.foldl_nil]
  rw [UInt64.toNat_toUInt16, UInt64.toNat_add, UInt64.toNat_mul, UInt64.toNat_add, UInt64.toNat_mul]
  have e5 : UInt64.toNat 256 = 256 := rfl
  rw [e5, UInt8.toNat_toUInt64, UInt8.toNat_toUInt64, UInt64.toNat_zero]
  omega
theorem put2_val (n : UInt16) : ∃ x y : UInt8, putB 2 n.toUInt64 = [x, y] ∧ x.toNat * 256 + y.toNat = n.toNat := by
  refine ⟨_, _, rfl, ?_⟩
  have h := n.toNat_lt
  rw [UInt64.toNat_toUInt8, UInt64.toNat_toUInt8, toNat_shr64, toNat_shr64, UInt16.toNat_toUInt64]
  simp only [Nat.mul_one, Nat.mul_zero, Nat.pow_zero, Nat.div_one]
  omega
/-- What a change at an even place makes of the sum. -/
theorem sumN_set (b : List UInt8) (t : Nat) (x y : UInt8) (ht : t % 2 = 0) (h : t + 1 < b.length) : sumN true ((b.set t x).set (t + 1) y) + ((b.getD t 0).toNat * 256 + (b.getD (t + 1) 0).toNat) = sumN true b + (x.toNat * 256 + y.toNat) := by
  have hl : (b.take t).length = t := by simp; omega
  have hs := split_two b t h
  have hn : (b.set t x).set (t + 1) y = b.take t ++ [x, y] ++ b.drop (t + 2) := by
    conv => lhs; rw [hs]
    rw [List.append_assoc, List.set_append_right _ _ (by omega), List.set_append_right _ _ (by omega), hl]
    simp
  have hb : sumN true b = sumN true (b.take t) + ((b.getD t 0).toNat * 256 + (b.getD (t + 1) 0).toNat) + sumN true (b.drop (t + 2)) := by
    conv => lhs; rw [hs]
    rw [sumN_even (by simp [hl]; omega), sumN_even (by omega), sumN_two]
  rw [hn, sumN_even (by simp [hl]; omega), sumN_even (by omega), sumN_two, hb]
  omega

theorem follows_law (b : List UInt8) (t : Nat) (n old : UInt16) (x y : UInt8) (hl : b.length ≤ 140737488351232) (h1 : t + 1 < b.length) (h2 : t % 2 = 0) (hxy : x.toNat * 256 + y.toNat = n.toNat) (ho : old.toNat = (b.getD t 0).toNat * 256 + (b.getD (t + 1) 0).toNat) :
    (nearB (updB (sumB b) old n) (sumB ((b.set t x).set (t + 1) y)) && nearB (updB (updB (sumB b) old n) n old) (sumB b)) = true := by
  have e := sumN_set b t x y h2 h1
  have hb := sumB_eq (l := b) (by omega)
  have hn := sumB_eq (l := (b.set t x).set (t + 1) y) (by simp; omega)
  generalize (b.set t x).set (t + 1) y = L at e hn ⊢
  have ho2 := old.toNat_lt
  have hn2 := n.toNat_lt
  have f1 := foldN_mod (sumN true b)
  have f2 := foldN_le (sumN true b)
  obtain ⟨g1, S', g2, g3, g4⟩ := upd_near hb f2 old n (A := sumN true L) (by omega)
  have g5 := (upd_near g2 g3 n old (A := sumN true b) (by omega)).1
  rw [hn, g1, hb] at *
  rw [Bool.true_and]
  rw [hb] at g5
  exact g5

theorem en35 : Enters Try.prog 35 := Enters.mk' (by kernel_rfl)

theorem OctetsFollows_walk (u : OV) (b : List UInt8) (p0 : Int) (n : UInt16) (w : World) (hb : IsSl u8E w u.v b) (hl : b.length ≤ 140737488351232) (hp : Fit p0) : Calls Try.prog 8 #[u.v, I p0, U16 n] w (RetV w (.bool true)) := by
  have hbl := hb.le
  have hp2 := hp
  unfold Fit at hp2
  refine enter0 76 Try.func8 rfl rfl (Nat.le_of_ble_eq_true rfl) ?_
  refine seq ?_
  refine region ?_
  refine cons (opv (Ev.assign (.c (v := .bool false) rfl)) ?_)
  refine nil ?_
  refine pN ?_
  refine seq ?_
  refine seq ?_
  refine region ?_
  refine cons (callv en22 .nil (fun w I => works_ok w) ?_)
  refine cons (opv (Ev.not (.t rfl)) ?_)
  refine nil ?_
  refine pN ?_
  first | refine condD rfl (fun h0 => ?_) (fun h0 => ?_) | refine cond rfl (fun h0 => ?_) (fun h0 => ?_)
  · simp at h0
  · refine skip ?_
    refine pN ?_
    refine seq ?_
    refine seq ?_
    refine region ?_
    refine cons (opv (Ev.move (.t rfl)) ?_)
    refine cons (opv (Ev.len Try.underlying22 (.t rfl) (by first | exact isSl_own (by repeat first | exact List.Mem.head _ | apply List.Mem.tail) | exact fun w I => IsSl.keep0 (by assumption) I.keeps)) ?_)
    refine cons (opv (Ev.lss_i (.t rfl) (.c (v := I 2) rfl)) ?_)
    refine nil ?_
    refine pN ?_
    first | refine condD rfl (fun hsm => ?_) (fun hbg => ?_) | refine cond rfl (fun hsm => ?_) (fun hbg => ?_)
    · try simp only [Bool.and_eq_true, Bool.or_eq_true, Bool.or_eq_false_iff, Bool.and_eq_false_iff, Bool.not_eq_true', Bool.not_eq_false', decide_eq_true_eq, decide_eq_false_iff_not, Decidable.not_not] at hsm
      refine seq ?_
      refine region ?_
      refine cons (opv (Ev.assign (.c (v := .bool true) rfl)) ?_)
      refine nil ?_
      refine pN ?_
      refine ret ?_
      refine pR ?_
      refine done rfl (.tmp rfl .nil) (retE ?_)
      rfl
    · try simp only [Bool.and_eq_true, Bool.or_eq_true, Bool.or_eq_false_iff, Bool.and_eq_false_iff, Bool.not_eq_true', Bool.not_eq_false', decide_eq_true_eq, decide_eq_false_iff_not, Decidable.not_not] at hbg
      refine skip ?_
      refine pN ?_
      refine seq ?_
      refine region ?_
      have hm1 : 0 ≤ max p0 0 % ((b.length : Int) / 2) := Int.emod_nonneg _ (by omega)
      have hm2 : max p0 0 % ((b.length : Int) / 2) < (b.length : Int) / 2 := Int.emod_lt_of_pos _ (by omega)
      obtain ⟨t, ht⟩ : ∃ t : Nat, max p0 0 % ((b.length : Int) / 2) * 2 = (t : Int) := ⟨(max p0 0 % ((b.length : Int) / 2) * 2).toNat, by omega⟩
      have ht1 : t + 1 < b.length := by omega
      have ht2 : t % 2 = 0 := by omega
      have htk : (takeB b t 2).2 = 0 := by unfold takeB; rw [if_pos (by omega)]
      refine cons (opv (Ev.move (.t rfl)) ?_)
      refine cons (opv (Ev.max_i (.t rfl) (.c (v := I 0) rfl)) ?_)
      refine cons (opv (Ev.move (.t rfl)) ?_)
      refine cons (opv (Ev.len Try.underlying22 (.t rfl) (by first | exact isSl_own (by repeat first | exact List.Mem.head _ | apply List.Mem.tail) | exact fun w I => IsSl.keep0 (by assumption) I.keeps)) ?_)
      refine cons (opv (Ev.quo_n (.t rfl) (.c (v := I 2) rfl) (fun _ => by omega) (fun _ => by omega) (fun _ => by omega)) ?_)
      refine cons (opv (Ev.rem_n (.t rfl) (.t rfl) (fun _ => by omega) (fun _ => by omega)) ?_)
      refine cons (opv (Ev.to (v' := I (t : Nat)) (Ev.mul_i (.t rfl) (.c (v := I 2) rfl) (fun _ => by omega)) (by rw [ht])) ?_)
      refine cons (opv (Ev.assign (.t rfl)) ?_)
      refine nil ?_
      refine pN ?_
      refine seq ?_
      refine region ?_
      refine cons (opv (Ev.move (.t rfl)) ?_)
      refine cons (opv (Ev.move (.t rfl)) ?_)
      refine cons (callv en24 (.cons (.t rfl) (.cons (.t rfl) .nil)) (fun w I => take_uint16_ok _ _ _ w (by first | exact isSl_own (by repeat first | exact List.Mem.head _ | apply List.Mem.tail) w I | exact IsSl.keep0 (by assumption) I.keeps)) ?_)
      refine cons (opv (Ev.move (.t rfl)) ?_)
      refine cons (opv (Ev.extract (.t rfl) rfl) ?_)
      refine cons (opv (Ev.extract (.t rfl) rfl) ?_)
      refine cons (opv (Ev.assign (.t rfl)) ?_)
      refine cons (opv (Ev.assign (.t rfl)) ?_)
      refine nil ?_
      refine pN ?_
      refine seq ?_
      refine region ?_
      refine cons (opv (Ev.assign (.c (v := (Go.Value.slice none 0 0)) rfl)) ?_)
      refine takeNil u8E 5 ?_
      refine nil ?_
      refine pN ?_
      refine seq ?_
      refine region ?_
      refine cons (opv (Ev.move (.t rfl)) ?_)
      refine cons (opv (Ev.move (.t rfl)) ?_)
      refine cons (append (E := u8E) Try.underlying22 ty5 rfl zb5 zs5 (.t rfl) (.t rfl) (fun _ => by repeat first | exact Upd.head | apply Upd.tail) (by first | exact isSl_own (by repeat first | exact List.Mem.head _ | apply List.Mem.tail) | exact fun w I => IsSl.keep0 (by assumption) I.keeps) (⟨by (show _ ≤ 9223372036854775807); first | omega | (simp; omega), by first | omega | (simp; omega)⟩) (fun v1 => ?_))
      refine cons (opv (Ev.assign (.t rfl)) ?_)
      refine nil ?_
      refine pN ?_
      refine seq ?_
      refine region ?_
      refine cons (opv (Ev.move (.t rfl)) ?_)
      refine cons (callo en14 (.cons (.c (v := (Go.Value.slice none 0 0)) rfl) (.cons (.t rfl) .nil)) (fun w I => put_uint16_ok _ _ _ w (IsSl.nil _ w) (by first | assumption | omega | (simp [putB_length]; done) | (simp [putB_length]; omega))) (fun v2 => ?_))
      refine cons (opv (Ev.assign (.t rfl)) ?_)
      refine nil ?_
      refine pN ?_
      refine seq ?_
      refine seq ?_
      refine region ?_
      refine cons (opv (Ev.move (.t rfl)) ?_)
      refine cons (opv (Ev.neq_i (.t rfl) (.c (v := I 0) rfl)) ?_)
      refine cons (opv (Ev.move (.t rfl)) ?_)
      refine cons (opg rfl rfl (Ev.move (.t rfl)) ?_)
      refine cons (opg rfl rfl (Ev.len Try.underlying22 (.g rfl id) (by first | exact isSl_own (by repeat first | exact List.Mem.head _ | apply List.Mem.tail) | exact fun w I => IsSl.keep0 (by assumption) I.keeps)) ?_)
      refine cons (opg rfl rfl (Ev.neq_i (.g rfl id) (.c (v := I 2) rfl)) ?_)
      refine cons (opv (Ev.pickO (.t rfl) (.c (v := .bool true) rfl) (fun {_} h => by cases h; rfl) ⟨_, rfl⟩ (by intro h1 h; first | (rw [h] <;> rfl) | (rw [h, h1] <;> rfl) | simp_all)) ?_)
      refine nil ?_
      refine pN ?_
      first | refine condD rfl (fun h2 => ?_) (fun h2 => ?_) | refine cond rfl (fun h2 => ?_) (fun h2 => ?_)
      · exfalso
        rw [htk] at h2
        simp [putB] at h2
      · refine know (p := Shp v1.v b.length) (fun w I => (isSl_own (E := u8E) (T := 5) (v := v1.v) (xs := [] ++ b) (by repeat first | exact List.Mem.head _ | apply List.Mem.tail) w I).shp) (fun hsh => ?_)
        refine skip ?_
        refine pN ?_
        refine seq ?_
        refine drawR (Rem.tail Rem.head) (by kernel_rfl) ?_
        refine take 0 rfl (by kernel_rfl) (by kernel_rfl) (by kernel_rfl) (by repeat first | exact List.Sublist.refl _ | apply List.Sublist.cons_cons | apply List.Sublist.cons) (Ev.move (.t rfl)) ?_
        refine take 1 rfl (by kernel_rfl) (by kernel_rfl) (by kernel_rfl) (by repeat first | exact List.Sublist.refl _ | apply List.Sublist.cons_cons | apply List.Sublist.cons) (Ev.move (.t rfl)) ?_
        refine take 2 rfl (by kernel_rfl) (by kernel_rfl) (by kernel_rfl) (by repeat first | exact List.Sublist.refl _ | apply List.Sublist.cons_cons | apply List.Sublist.cons) (Ev.move (.t rfl)) ?_
        refine take 3 rfl (by kernel_rfl) (by kernel_rfl) (by kernel_rfl) (by repeat first | exact List.Sublist.refl _ | apply List.Sublist.cons_cons | apply List.Sublist.cons) (Ev.move (.t rfl)) ?_
        refine take 4 rfl (by kernel_rfl) (by kernel_rfl) (by kernel_rfl) (by repeat first | exact List.Sublist.refl _ | apply List.Sublist.cons_cons | apply List.Sublist.cons) (Ev.add_i (.t rfl) (.c (v := I 1) rfl) (fun _ => by omega)) ?_
        refine take 5 rfl (by kernel_rfl) (by kernel_rfl) (by kernel_rfl) (by repeat first | exact List.Sublist.refl _ | apply List.Sublist.cons_cons | apply List.Sublist.cons) (Ev.move (.t rfl)) ?_
        refine take 6 rfl (by kernel_rfl) (by kernel_rfl) (by kernel_rfl) (by repeat first | exact List.Sublist.refl _ | apply List.Sublist.cons_cons | apply List.Sublist.cons) (Ev.indexAddr Try.underlying22 ty5 (.t rfl) (.c (v := I 0) rfl) (by first | exact isSl_own (by repeat first | exact List.Mem.head _ | apply List.Mem.tail) | exact fun w I => IsSl.keep0 (by assumption) I.keeps) (fun _ => by simp [putB])) ?_
        refine take 7 rfl (by kernel_rfl) (by kernel_rfl) (by kernel_rfl) (by repeat first | exact List.Sublist.refl _ | apply List.Sublist.cons_cons | apply List.Sublist.cons) (Ev.loadS0 (i := 0) ty5 (.t rfl) (by first | exact isSl_own (by repeat first | exact List.Mem.head _ | apply List.Mem.tail) | exact fun w I => IsSl.keep0 (by assumption) I.keeps) (fun _ => by simp [putB])) ?_
        refine take 8 rfl (by kernel_rfl) (by kernel_rfl) (by kernel_rfl) (by repeat first | exact List.Sublist.refl _ | apply List.Sublist.cons_cons | apply List.Sublist.cons) (Ev.move (.t rfl)) ?_
        refine take 9 rfl (by kernel_rfl) (by kernel_rfl) (by kernel_rfl) (by repeat first | exact List.Sublist.refl _ | apply List.Sublist.cons_cons | apply List.Sublist.cons) (Ev.indexAddr Try.underlying22 ty5 (.t rfl) (.c (v := I 1) rfl) (by first | exact isSl_own (by repeat first | exact List.Mem.head _ | apply List.Mem.tail) | exact fun w I => IsSl.keep0 (by assumption) I.keeps) (fun _ => by simp [putB])) ?_
        refine take 10 rfl (by kernel_rfl) (by kernel_rfl) (by kernel_rfl) (by repeat first | exact List.Sublist.refl _ | apply List.Sublist.cons_cons | apply List.Sublist.cons) (Ev.loadS0 (i := 1) ty5 (.t rfl) (by first | exact isSl_own (by repeat first | exact List.Mem.head _ | apply List.Mem.tail) | exact fun w I => IsSl.keep0 (by assumption) I.keeps) (fun _ => by simp [putB])) ?_
        refine take 11 rfl (by kernel_rfl) (by kernel_rfl) (by kernel_rfl) (by repeat first | exact List.Sublist.refl _ | apply List.Sublist.cons_cons | apply List.Sublist.cons) (Ev.indexAddrV Try.underlying22 ty5 (.t rfl) (.t rfl) hsh (fun _ => by omega)) ?_
        refine all [12] (by kernel_rfl) (by decide) (.cons rfl ?_ .nil)
        refine (storeS0 ty5 (.t rfl) (.t rfl) (by repeat first | exact Upd.head | apply Upd.tail) (by first | omega | (simp; omega)) ?_)
        refine heldN_of (by repeat first | exact List.Sublist.refl _ | apply List.Sublist.cons_cons | apply List.Sublist.cons) ?_
        refine take 13 rfl (by kernel_rfl) (by kernel_rfl) (by kernel_rfl) (by repeat first | exact List.Sublist.refl _ | apply List.Sublist.cons_cons | apply List.Sublist.cons) (Ev.indexAddrV Try.underlying22 ty5 (.t rfl) (.t rfl) hsh (fun _ => by omega)) ?_
        refine all [14] (by kernel_rfl) (by decide) (.cons rfl ?_ .nil)
        refine (storeS0 ty5 (.t rfl) (.t rfl) (by repeat first | exact Upd.head | apply Upd.tail) (by first | omega | (simp; omega)) ?_)
        refine heldN_of (by repeat first | exact List.Sublist.refl _ | apply List.Sublist.cons_cons | apply List.Sublist.cons) ?_
        refine over (by kernel_rfl) ?_
        refine pN ?_
        refine seq ?_
        refine region ?_
        refine cons (opv (Ev.move (.t rfl)) ?_)
        refine cons (buildSlice (E := (ovE nilSl)) Try.underlying33 ty22 z22 (.cons (.t rfl) .nil) rfl rfl (fun v3 => ?_))
        refine cons (callv en29 (.cons (.t rfl) .nil) (fun w I => sum_ok _ [b] w (IsSS.mk' (isSl_own (by repeat first | exact List.Mem.head _ | apply List.Mem.tail) w I) (.cons (hb.keep0 I.keeps) .nil))) ?_)
        refine cons (opv (Ev.assign (.t rfl)) ?_)
        refine nil ?_
        refine pN ?_
        refine seq ?_
        refine region ?_
        refine cons (opv (Ev.move (.t rfl)) ?_)
        refine cons (opv (Ev.move (.t rfl)) ?_)
        refine cons (opv (Ev.move (.t rfl)) ?_)
        refine cons (callv en33 (.cons (.t rfl) (.cons (.t rfl) (.cons (.t rfl) .nil))) (fun w I => update_ok _ _ _ w) ?_)
        refine cons (opv (Ev.assign (.t rfl)) ?_)
        refine nil ?_
        refine pN ?_
        refine seq ?_
        refine region ?_
        refine cons (opv (Ev.move (.t rfl)) ?_)
        refine cons (opv (Ev.move (.t rfl)) ?_)
        refine cons (buildSlice (E := (ovE nilSl)) Try.underlying33 ty22 z22 (.cons (.t rfl) .nil) rfl rfl (fun v4 => ?_))
        refine cons (callv en29 (.cons (.t rfl) .nil) (fun w I => sum_ok _ [_] w (IsSS.mk' (isSl_own (by repeat first | exact List.Mem.head _ | apply List.Mem.tail) w I) (.cons (isSl_own (by repeat first | exact List.Mem.head _ | apply List.Mem.tail) w I) .nil))) ?_)
        refine cons (callv en35 (.cons (.t rfl) (.cons (.t rfl) .nil)) (fun w I => near_ok _ _ w) ?_)
        refine cons (opv (Ev.move (.t rfl)) ?_)
        refine cons (opg rfl rfl (Ev.move (.t rfl)) ?_)
        refine cons (opg rfl rfl (Ev.move (.t rfl)) ?_)
        refine cons (opg rfl rfl (Ev.move (.t rfl)) ?_)
        refine cons (callg rfl rfl en33 (.cons (.g rfl id) (.cons (.g rfl id) (.cons (.g rfl id) .nil))) (fun hg w I => update_ok _ _ _ w) ?_)
        refine cons (opg rfl rfl (Ev.move (.t rfl)) ?_)
        refine cons (callg rfl rfl en35 (.cons (.g rfl id) (.cons (.g rfl id) .nil)) (fun hg w I => near_ok _ _ w) ?_)
        refine cons (opv (Ev.pickA (.t rfl) (fun {_} h => by cases h; rfl) ⟨_, rfl⟩ (by intro h1 h; first | (rw [h] <;> rfl) | (rw [h, h1] <;> rfl) | simp_all) (.c (v := .bool false) rfl)) ?_)
        refine cons (opv (Ev.assign (.t rfl)) ?_)
        refine nil ?_
        refine pN ?_
        refine ret ?_
        refine done rfl (.tmp rfl .nil) (retE ?_)
        refine congrArg Value.bool ?_
        obtain ⟨x, y, hxy, hxn⟩ := put2_val n
        have hv := take2_val b t ht1
        have e := follows_law b t n (takeB b t 2).1.toUInt16 x y hl ht1 ht2 hxn hv
        simp only [List.nil_append, List.flatten_cons, List.flatten_nil, List.append_nil, hxy]
        exact e
end Go.Proofs.Ytcmpdhggeilkfaa
