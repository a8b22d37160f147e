/- octets -/
import Derived.Test.YtcmpdhggeilkfaaO13
set_option linter.unusedVariables false
set_option linter.unusedSimpArgs false
namespace Go.Proofs.Ytcmpdhggeilkfaa
open Go Go.Gx

theorem zb3 : (Try.prog.info? 3).map (fun i => (i.zero, i.bytes)) = some (some (iE.val iE.zero), 8) := by kernel_rfl

theorem zs3 : (iE.val iE.zero).cells.size = iE.size := by rw [Enc.cells_val, List.size_toArray, Enc.len]

/-- A number's lowest bytes. -/
def cutV (n : Nat) (x : UInt64) : UInt64 := UInt64.ofNat (x.toNat % 256 ^ n)
theorem pow_8 (n : Nat) (h : n ≤ 8) : 256 ^ n ≤ 18446744073709551616 := by
  have : 256 ^ n ≤ 256 ^ 8 := Nat.pow_le_pow_right (by decide) h
  simpa using this
theorem cutV_toNat (n : Nat) (x : UInt64) (h : n ≤ 8) : (cutV n x).toNat = x.toNat % 256 ^ n := by
  unfold cutV
  rw [UInt64.toNat_ofNat', Nat.mod_eq_of_lt]
  exact Nat.lt_of_lt_of_le (Nat.mod_lt _ (Nat.pow_pos (by decide))) (pow_8 n h)
theorem cutV_lt (n : Nat) (x : UInt64) (h : n ≤ 8) : (cutV n x).toNat < 256 ^ n := by
  rw [cutV_toNat n x h]
  exact Nat.mod_lt _ (Nat.pow_pos (by decide))
theorem cutV_8 (x : UInt64) : cutV 8 x = x := by
  apply UInt64.toNat_inj.1
  have := x.toNat_lt
  rw [cutV_toNat 8 x (by omega)]
  exact Nat.mod_eq_of_lt this
theorem fold_acc : ∀ (l : List UInt8) (v : UInt64), v.toNat * 256 ^ l.length + 256 ^ l.length ≤ 18446744073709551616 → (l.foldl (fun v x => v * 256 + x.toUInt64) v).toNat = v.toNat * 256 ^ l.length + (numB l).toNat
  | [], v, _ => by simp [numB]
  | x :: l, v, h => by
    have hx := x.toNat_lt
    have hp : 0 < 256 ^ l.length := Nat.pow_pos (by decide)
    rw [List.length_cons, Nat.pow_succ] at h ⊢
    have hb : (v.toNat * 256 + 256) * 256 ^ l.length ≤ 18446744073709551616 := by
      rw [Nat.add_mul, Nat.mul_assoc, Nat.mul_comm 256 (256 ^ l.length)]
      exact h
    have h3 : v.toNat * 256 + 256 ≤ (v.toNat * 256 + 256) * 256 ^ l.length := Nat.le_mul_of_pos_right _ hp
    have e2 : UInt64.toNat 256 = 256 := rfl
    have e : (v * 256 + x.toUInt64).toNat = v.toNat * 256 + x.toNat := by
      rw [UInt64.toNat_add, UInt64.toNat_mul, UInt8.toNat_toUInt64, e2]
      omega
    have hs : (v.toNat * 256 + x.toNat + 1) * 256 ^ l.length ≤ (v.toNat * 256 + 256) * 256 ^ l.length := Nat.mul_le_mul_right _ (by omega)
    have h4 := fold_acc l (v * 256 + x.toUInt64) (by rw [e]; rw [Nat.add_mul _ 1, Nat.one_mul] at hs; omega)
    have e0 : ((0 : UInt64) * 256 + x.toUInt64).toNat = x.toNat := by
      rw [UInt64.zero_mul, UInt64.zero_add, UInt8.toNat_toUInt64]
    have hx2 : (x.toNat + 1) * 256 ^ l.length ≤ (v.toNat * 256 + 256) * 256 ^ l.length := Nat.mul_le_mul_right _ (by omega)
    have h5 := fold_acc l ((0 : UInt64) * 256 + x.toUInt64) (by rw [e0]; rw [Nat.add_mul _ 1, Nat.one_mul] at hx2; omega)
    rw [List.foldl_cons, h4, e]
    unfold numB
    rw [List.foldl_cons, h5, e0]
    rw [Nat.add_mul, Nat.mul_assoc, Nat.mul_comm 256 (256 ^ l.length)]
    unfold numB
    omega
theorem numB_cons (x : UInt8) (l : List UInt8) (h : l.length ≤ 7) : (numB (x :: l)).toNat = x.toNat * 256 ^ l.length + (numB l).toNat := by
  have hx := x.toNat_lt
  have e0 : ((0 : UInt64) * 256 + x.toUInt64).toNat = x.toNat := by rw [UInt64.zero_mul, UInt64.zero_add, UInt8.toNat_toUInt64]
  have hp : 256 ^ l.length ≤ 256 ^ 7 := Nat.pow_le_pow_right (by decide) h
  have hm : (x.toNat + 1) * 256 ^ l.length ≤ 256 * 256 ^ 7 := Nat.mul_le_mul (by omega) hp
  have h5 := fold_acc l ((0 : UInt64) * 256 + x.toUInt64) (by rw [e0]; rw [Nat.add_mul, Nat.one_mul] at hm; omega)
  rw [e0] at h5
  exact h5
theorem numB_putB : ∀ (n : Nat) (v : UInt64), n ≤ 8 → (numB (putB n v)).toNat = v.toNat % 256 ^ n
  | 0, v, _ => by simp [putB, numB, Nat.mod_one]
  | n + 1, v, h => by
    have ih := numB_putB n v (by omega)
    unfold putB
    have e : (2 : Nat) ^ 8 = 256 := rfl
    rw [numB_cons _ _ (by rw [putB_length]; omega), ih, putB_length, UInt64.toNat_toUInt8, toNat_shr64, Nat.pow_mul, e, Nat.pow_succ, Nat.mod_mul, Nat.mul_comm, Nat.add_comm]
theorem numB_cut (n : Nat) (v : UInt64) (h : n ≤ 8) : numB (putB n v) = cutV n v := UInt64.toNat_inj.1 (by rw [numB_putB n v h, cutV_toNat n v h])
theorem mid_take (a r : List UInt8) (n : Nat) (v : UInt64) : ((a ++ putB n v ++ r).take (a.length + n)).drop a.length = putB n v := by
  have e : a.length + n = (a ++ putB n v).length := by rw [List.length_append, putB_length]
  rw [e, List.take_left, List.drop_left]
theorem takeB_mid (a r : List UInt8) (n : Nat) (v : UInt64) (h : n ≤ 8) : takeB (a ++ putB n v ++ r) a.length n = (cutV n v, 0) := by
  unfold takeB
  have e1 : ((a.length : Int) + n).toNat = a.length + n := by omega
  have e2 : ((a.length : Int)).toNat = a.length := by omega
  rw [if_pos ⟨by omega, by rw [List.length_append, List.length_append, putB_length]; omega⟩, e1, e2, mid_take, numB_cut n v h]
theorem or_bit (v : UInt64) (c : UInt8) (h : c.toNat ≤ 1) : shl64 v 1 ||| c.toUInt64 = v * 2 + c.toUInt64 := by
  apply UInt64.toNat_inj.1
  rw [UInt64.toNat_or, toNat_shl64, UInt64.toNat_add, UInt64.toNat_mul, UInt8.toNat_toUInt64]
  have e1 : v.toNat * 2 ^ 1 % 18446744073709551616 = 2 ^ 1 * (v.toNat % 9223372036854775808) := by omega
  rw [e1, ← Nat.two_pow_add_eq_or_of_lt (by omega : c.toNat < 2 ^ 1)]
  have e2 : UInt64.toNat 2 = 2 := rfl
  rw [e2]
  omega
theorem two_steps (v a b : UInt64) : (v * 2 + a) * 2 + b = v * 4 + (a * 2 + b) := by
  apply UInt64.toNat_inj.1
  simp only [UInt64.toNat_add, UInt64.toNat_mul]
  have e2 : UInt64.toNat 2 = 2 := rfl
  have e4 : UInt64.toNat 4 = 4 := rfl
  rw [e2, e4]
  omega
theorem four_steps (v a b : UInt64) : (v * 4 + a) * 4 + b = v * 16 + (a * 4 + b) := by
  apply UInt64.toNat_inj.1
  simp only [UInt64.toNat_add, UInt64.toNat_mul]
  have e2 : UInt64.toNat 16 = 16 := rfl
  have e4 : UInt64.toNat 4 = 4 := rfl
  rw [e2, e4]
  omega
theorem eight_steps (v a b : UInt64) : (v * 16 + a) * 16 + b = v * 256 + (a * 16 + b) := by
  apply UInt64.toNat_inj.1
  simp only [UInt64.toNat_add, UInt64.toNat_mul]
  have e2 : UInt64.toNat 16 = 16 := rfl
  have e4 : UInt64.toNat 256 = 256 := rfl
  rw [e2, e4]
  omega
def bitOf (x : UInt8) (j : Nat) : UInt8 := shr8 x (7 - j) &&& 1
theorem bitOf_le (x : UInt8) (j : Nat) : (bitOf x j).toNat ≤ 1 := by
  unfold bitOf
  rw [UInt8.toNat_and]
  have e : UInt8.toNat 1 = 1 := rfl
  rw [e, Nat.and_one_is_mod]
  omega
set_option maxRecDepth 100000 in
theorem byte_bits (x : UInt8) : (((bitOf x 0).toUInt64 * 2 + (bitOf x 1).toUInt64) * 4 + ((bitOf x 2).toUInt64 * 2 + (bitOf x 3).toUInt64)) * 16 + (((bitOf x 4).toUInt64 * 2 + (bitOf x 5).toUInt64) * 4 + ((bitOf x 6).toUInt64 * 2 + (bitOf x 7).toUInt64)) = x.toUInt64 := by
  have h : ∀ n : Fin 256, (((bitOf (UInt8.ofNat n.val) 0).toUInt64 * 2 + (bitOf (UInt8.ofNat n.val) 1).toUInt64) * 4 + ((bitOf (UInt8.ofNat n.val) 2).toUInt64 * 2 + (bitOf (UInt8.ofNat n.val) 3).toUInt64)) * 16 + (((bitOf (UInt8.ofNat n.val) 4).toUInt64 * 2 + (bitOf (UInt8.ofNat n.val) 5).toUInt64) * 4 + ((bitOf (UInt8.ofNat n.val) 6).toUInt64 * 2 + (bitOf (UInt8.ofNat n.val) 7).toUInt64)) = (UInt8.ofNat n.val).toUInt64 := by decide +kernel
  have := h ⟨x.toNat, x.toNat_lt⟩
  simpa only [UInt8.ofNat_toNat] using this
theorem bitU_at (xs : List UInt8) (q j : Nat) (hj : j < 8) : bitU xs (8 * (q : Int) + j) = bitOf (xs.getD q 0) j := by
  unfold bitU bitOf
  have e1 : ((8 * (q : Int) + j) / 8).toNat = q := by omega
  have e2 : (7 - (8 * (q : Int) + j) % 8).toNat = 7 - j := by omega
  rw [e1, e2]
theorem bitsV_eight (xs : List UInt8) (p k : Nat) : bitsV xs (8 * (p : Int)) (8 * k + 8) = bitsV xs (8 * (p : Int)) (8 * k) * 256 + (xs.getD (p + k) 0).toUInt64 := by
  have st : ∀ j, j < 8 → bitsV xs (8 * (p : Int)) (8 * k + j + 1) = bitsV xs (8 * (p : Int)) (8 * k + j) * 2 + (bitOf (xs.getD (p + k) 0) j).toUInt64 := fun j hj => by
    show shl64 (bitsV xs (8 * (p : Int)) (8 * k + j)) 1 ||| (bitU xs (8 * (p : Int) + ((8 * k + j : Nat) : Int))).toUInt64 = _
    have e : 8 * (p : Int) + ((8 * k + j : Nat) : Int) = 8 * ((p + k : Nat) : Int) + j := by omega
    rw [e, bitU_at xs (p + k) j hj, or_bit _ _ (bitOf_le _ _)]
  have s0 := st 0 (by omega)
  have s1 := st 1 (by omega)
  have s2 := st 2 (by omega)
  have s3 := st 3 (by omega)
  have s4 := st 4 (by omega)
  have s5 := st 5 (by omega)
  have s6 := st 6 (by omega)
  have s7 := st 7 (by omega)
  rw [s7, s6, two_steps, s5, s4, two_steps, four_steps, s3, s2, two_steps, s1, s0, two_steps, four_steps, eight_steps, byte_bits]
  rfl
theorem bitsV_numB (xs : List UInt8) (p : Nat) : ∀ k, p + k ≤ xs.length → bitsV xs (8 * (p : Int)) (8 * k) = numB ((xs.take (p + k)).drop p)
  | 0, h => by
    have e : (xs.take (p + 0)).drop p = [] := by rw [Nat.add_zero, List.drop_take_self]
    rw [e]
    rfl
  | k + 1, h => by
    have ih := bitsV_numB xs p k (by omega)
    have e : (xs.take (p + (k + 1))).drop p = (xs.take (p + k)).drop p ++ [xs.getD (p + k) 0] := by
      rw [show p + (k + 1) = (p + k) + 1 from rfl, List.take_succ_eq_append_getElem (by omega), List.drop_append_of_le_length (by simp; omega)]
      simp [List.getD, show p + k < xs.length by omega]
    rw [show 8 * (k + 1) = 8 * k + 8 from by omega, bitsV_eight, ih, e, numB_snoc]
theorem bitsB_mid (a r : List UInt8) (n : Nat) (v : UInt64) (h : n ≤ 8) : bitsB (a ++ putB n v ++ r) (8 * (a.length : Int)) (8 * (n : Int)) = (cutV n v, 0) := by
  unfold bitsB
  have e1 : (8 * (n : Int)).toNat = 8 * n := by omega
  have hl : (a ++ putB n v ++ r).length = a.length + n + r.length := by rw [List.length_append, List.length_append, putB_length]
  rw [if_neg (by omega), if_neg (by rw [hl]; omega), e1, bitsV_numB _ _ _ (by rw [hl]; omega), mid_take, numB_cut n v h]
/-- The widths, by turns. -/
def wi (i : Nat) : Nat := if i % 4 = 0 then 8 else if i % 4 = 1 then 4 else if i % 4 = 2 then 2 else 1
theorem wi_le (i : Nat) : 1 ≤ wi i ∧ wi i ≤ 8 := by unfold wi; split <;> (try split) <;> (try split) <;> omega
/-- What is laid, number by number. -/
def outB (b : List UInt8) (l : List UInt64) : Nat → List UInt8
  | 0 => b
  | n + 1 => outB b l n ++ putB (wi n) (l.getD n 0)
theorem outB_len (b : List UInt8) (l : List UInt64) : ∀ n, b.length ≤ (outB b l n).length ∧ (outB b l n).length ≤ b.length + 8 * n
  | 0 => by simp [outB]
  | n + 1 => by
    have := outB_len b l n
    have := wi_le n
    simp only [outB, List.length_append, putB_length]
    omega
theorem outB_pre (b : List UInt8) (l : List UInt64) (k : Nat) : ∀ n, k ≤ n → ∃ r, outB b l n = outB b l k ++ r
  | 0, h => ⟨[], by rw [Nat.le_zero.1 h, List.append_nil]⟩
  | n + 1, h => by
    by_cases e : k = n + 1
    · exact ⟨[], by rw [e, List.append_nil]⟩
    · obtain ⟨r, hr⟩ := outB_pre b l k n (by omega)
      exact ⟨r ++ putB (wi n) (l.getD n 0), by rw [outB, hr, List.append_assoc]⟩
theorem outB_at (b : List UInt8) (l : List UInt64) (k n : Nat) (h : k < n) : ∃ r, outB b l n = outB b l k ++ putB (wi k) (l.getD k 0) ++ r := outB_pre b l (k + 1) n h
theorem outB_take (b : List UInt8) (l : List UInt64) (n : Nat) : (outB b l n).take b.length = b := by
  obtain ⟨r, hr⟩ := outB_pre b l 0 n (Nat.zero_le _)
  rw [hr]
  show (b ++ r).take b.length = b
  exact List.take_left
/-- The places. -/
def plB (b : List UInt8) (l : List UInt64) (n : Nat) : List Int := (List.range n).map fun k : Nat => ((outB b l k).length : Int)
theorem plB_step (b : List UInt8) (l : List UInt64) (n : Nat) : plB b l (n + 1) = plB b l n ++ [((outB b l n).length : Int)] := by simp [plB, List.range_succ]
theorem plB_len (b : List UInt8) (l : List UInt64) (n : Nat) : (plB b l n).length = n := by simp [plB]
theorem plB_get (b : List UInt8) (l : List UInt64) (n k : Nat) (h : k < n) : (plB b l n).getD k 0 = ((outB b l k).length : Int) := by simp [plB, List.getD, h]
theorem cut4_mod (x : UInt64) : x % 4294967296 = cutV 4 x := UInt64.toNat_inj.1 (by rw [cutV_toNat 4 x (by omega), UInt64.toNat_mod]; rfl)
theorem cut2_mod (x : UInt64) : x % 65536 = cutV 2 x := UInt64.toNat_inj.1 (by rw [cutV_toNat 2 x (by omega), UInt64.toNat_mod]; rfl)
theorem cut1_mod (x : UInt64) : x % 256 = cutV 1 x := UInt64.toNat_inj.1 (by rw [cutV_toNat 1 x (by omega), UInt64.toNat_mod]; rfl)
/-- What is owned of what is laid: nothing at first. -/
def outR (f : Bool) (o : OV) (xs : List UInt8) : List Res := if f then [OwnS o.v u8E xs 5] else []
theorem outSl {K : Ctx} {L : List Res} {f : Bool} {o u : OV} {xs b : List UInt8} (hf : f = false → o = u ∧ xs = b) (hb : IsSl u8E K.w0 u.v b) (hk : K.M = Nope) (hm : ∀ r ∈ outR f o xs, r ∈ L) (w : World) (I : WInv K L w) : IsSl u8E w o.v xs := by
  cases f with
  | false =>
    obtain ⟨rfl, rfl⟩ := hf rfl
    exact hb.keep0 (hk ▸ I.keeps)
  | true => exact isSl_own (hm _ List.mem_cons_self) w I

theorem ty23 : TyOK Try.prog 23 u64E := TyOK.mk' (by kernel_rfl) (by kernel_rfl)

set_option maxHeartbeats 2000000 in
theorem OctetsBack_walk (u z : OV) (b : List UInt8) (l : List UInt64) (w : World) (hb : IsSl u8E w u.v b) (hz : IsSl u64E w z.v l) (hl : b.length + l.length ≤ 1048576) : Calls Try.prog 9 #[u.v, z.v] w (RetV w (.bool true)) := by
  have hbl := hb.le
  have hzl := hz.le
  refine enter0 183 Try.func9 rfl rfl (Nat.le_of_ble_eq_true rfl) ?_
  refine seq ?_
  refine region ?_
  refine cons (opv (Ev.assign (.c (v := .bool false) rfl)) ?_)
  refine nil ?_
  refine pN ?_
  refine seq ?_
  refine seq ?_
  refine region ?_
  refine cons (callv en22 .nil (fun w I => works_ok w) ?_)
  refine cons (opv (Ev.not (.t rfl)) ?_)
  refine nil ?_
  refine pN ?_
  first | refine condD rfl (fun h0 => ?_) (fun h0 => ?_) | refine cond rfl (fun h0 => ?_) (fun h0 => ?_)
  · simp at h0
  · refine skip ?_
    refine pN ?_
    refine seq ?_
    refine region ?_
    refine cons (opv (Ev.move (.t rfl)) ?_)
    refine cons (opv (Ev.assign (.t rfl)) ?_)
    refine nil ?_
    refine pN ?_
    refine seq ?_
    refine region ?_
    refine cons (opv (Ev.assign (.c (v := (Go.Value.slice none 0 0)) rfl)) ?_)
    refine takeNil iE 3 ?_
    refine nil ?_
    refine pN ?_
    refine seq ?_
    refine seq ?_
    refine region ?_
    refine cons (opv (Ev.assign (.c (v := I 0) rfl)) ?_)
    refine nil ?_
    refine pN ?_
    refine block ?_
    refine loop (X := Int × Bool × OV × (List UInt8) × OV × (List Int)) (fun x : Int × Bool × OV × (List UInt8) × OV × (List Int) => (0 ≤ x.1 ∧ x.1 ≤ l.length ∧ x.1 ≤ 40) ∧ (x.2.1 = false → x.2.2.1 = u ∧ x.2.2.2.1 = b) ∧ (x.2.2.2.1 = outB b l x.1.toNat) ∧ (x.2.2.2.2.2 = plB b l x.1.toNat)) (fun x : Int × Bool × OV × (List UInt8) × OV × (List Int) => [(0, true, u.v), (1, true, z.v), (5, true, x.2.2.1.v), (6, true, x.2.2.2.2.1.v), (7, true, I x.1)]) (fun x : Int × Bool × OV × (List UInt8) × OV × (List Int) => (outR x.2.1 x.2.2.1 x.2.2.2.1 ++ [OwnS x.2.2.2.2.1.v iE x.2.2.2.2.2 3])) (fun x : Int × Bool × OV × (List UInt8) × OV × (List Int) => (40 - x.1).toNat) (0, false, u, b, nilSl, []) ⟨?_, ?_, ?_, ?_⟩ (by repeat first | exact Sub.nil | refine Sub.cons rfl ?_) (by repeat first | exact List.Sublist.refl _ | apply List.Sublist.cons_cons | apply List.Sublist.cons) (fun x hx => ?_)
    · omega
    · exact fun _ => ⟨rfl, rfl⟩
    · rfl
    · rfl
    obtain ⟨i, f, o, xs, pl, ps⟩ := x
    obtain ⟨hi, hf, hxs, hps⟩ : (0 ≤ i ∧ i ≤ l.length ∧ i ≤ 40) ∧ (f = false → o = u ∧ xs = b) ∧ (xs = outB b l i.toNat) ∧ (ps = plB b l i.toNat) := hx
    show Sat _ _ [(0, true, u.v), (1, true, z.v), (5, true, o.v), (6, true, pl.v), (7, true, I i)] (outR f o xs ++ [OwnS pl.v iE ps 3])
    have hxl := outB_len b l i.toNat
    rw [← hxs] at hxl
    have hpl := plB_len b l i.toNat
    rw [← hps] at hpl
    refine seq ?_
    refine seq ?_
    refine region ?_
    refine cons (opv (Ev.move (.t rfl)) ?_)
    refine cons (opv (Ev.move (.t rfl)) ?_)
    refine cons (opv (Ev.len Try.underlying63 (.t rfl) (fun w I => hz.keep0 I.keeps)) ?_)
    refine cons (opv (Ev.lss_i (.t rfl) (.t rfl)) ?_)
    refine cons (opv (Ev.move (.t rfl)) ?_)
    refine cons (opg rfl rfl (Ev.move (.t rfl)) ?_)
    refine cons (opg rfl rfl (Ev.lss_i (.g rfl id) (.c (v := I 40) rfl)) ?_)
    refine cons (opv (Ev.pickA (.t rfl) (fun {_} h => by cases h; rfl) ⟨_, rfl⟩ (by intro h1 h; first | (rw [h] <;> rfl) | (rw [h, h1] <;> rfl) | simp_all) (.c (v := .bool false) rfl)) ?_)
    refine nil ?_
    refine pN ?_
    first | refine condD rfl (fun hlt => ?_) (fun hge => ?_) | refine cond rfl (fun hlt => ?_) (fun hge => ?_)
    · try simp only [Bool.and_eq_true, Bool.or_eq_true, Bool.or_eq_false_iff, Bool.and_eq_false_iff, Bool.not_eq_true', Bool.not_eq_false', decide_eq_true_eq, decide_eq_false_iff_not, Decidable.not_not] at hlt
      refine skip ?_
      refine pN ?_
      refine cut (X := OV × (List UInt8) × OV × (List Int)) (fun x : OV × (List UInt8) × OV × (List Int) => (x.2.1 = xs ++ putB (wi i.toNat) (l.getD i.toNat 0)) ∧ (x.2.2.2 = ps ++ [(xs.length : Int)])) (fun x : OV × (List UInt8) × OV × (List Int) => [(0, true, u.v), (1, true, z.v), (5, true, x.1.v), (6, true, x.2.2.1.v), (7, true, I i)]) (fun x : OV × (List UInt8) × OV × (List Int) => [OwnS x.1.v u8E x.2.1 5, OwnS x.2.2.1.v iE x.2.2.2 3]) ?_ (fun x hx => ?_)
      · refine block ?_
        refine seq ?_
        refine region ?_
        refine cons (opv (Ev.move (.t rfl)) ?_)
        refine cons (opv (Ev.move (.t rfl)) ?_)
        refine cons (opv (Ev.len Try.underlying22 (.t rfl) (fun w I => outSl (f := f) (o := o) (u := u) (xs := xs) (b := b) hf hb rfl (fun r hr => by repeat first | exact List.mem_append_left _ hr | apply List.Mem.tail) w I)) ?_)
        refine cons (buildSlice (E := iE) Try.underlying34 ty3 z3 (.cons (.t rfl) .nil) rfl rfl (fun v1 => ?_))
        refine cons (append (E := iE) Try.underlying34 ty3 rfl zb3 zs3 (.t rfl) (.t rfl) (fun _ => Upd.tail (Upd.right Upd.head)) (isSl_own (by repeat first | exact List.Mem.head _ | apply List.Mem.tail)) ⟨by (show _ ≤ 9223372036854775807); simp; omega, by simp; omega⟩ (fun v9 => ?_))
        refine cons (opv (Ev.assign (.t rfl)) ?_)
        refine nil ?_
        refine pN ?_
        refine seq ?_
        refine region ?_
        refine cons (opv (Ev.move (.t rfl)) ?_)
        refine cons (opv (Ev.rem_n (.t rfl) (.c (v := I 4) rfl) (fun _ => by omega) (fun _ => by omega)) ?_)
        refine nil ?_
        refine pN ?_
        refine block ?_
        refine seq ?_
        refine region ?_
        refine cons (opv (Ev.eql_i (.t rfl) (.c (v := I 0) rfl)) ?_)
        refine cons (opv (Ev.assign (.t rfl)) ?_)
        refine nil ?_
        refine pN ?_
        first | refine condD rfl (fun h2 => ?_) (fun h2 => ?_) | refine cond rfl (fun h2 => ?_) (fun h2 => ?_)
        · try simp only [Bool.and_eq_true, Bool.or_eq_true, Bool.or_eq_false_iff, Bool.and_eq_false_iff, Bool.not_eq_true', Bool.not_eq_false', decide_eq_true_eq, decide_eq_false_iff_not, Decidable.not_not] at h2
          have hw : wi i.toNat = 8 := by unfold wi; rw [if_pos (by omega)]
          have hput := Eq.refl (putB 8 (l.getD i.toNat 0))
          refine region ?_
          refine cons (opv (Ev.move (.t rfl)) ?_)
          refine cons (opv (Ev.move (.t rfl)) ?_)
          refine cons (opv (Ev.move (.t rfl)) ?_)
          refine cons (opv (Ev.indexAddr Try.underlying63 ty23 (.t rfl) (.t rfl) (fun w I => hz.keep0 I.keeps) (fun _ => by omega)) ?_)
          refine cons (opv (Ev.loadS0 ty23 (.t rfl) (fun w I => hz.keep0 I.keeps) (fun _ => by omega)) ?_)
          refine cons (callo en16 (.cons (.t rfl) (.cons (.t rfl) .nil)) (fun w I => put_uint64_ok _ _ _ w (outSl (f := f) (o := o) (u := u) (xs := xs) (b := b) hf hb rfl (fun r hr => by repeat first | exact List.mem_append_left _ hr | apply List.Mem.tail) w I) (by first | assumption | omega | (simp [putB_length]; done) | (simp [putB_length]; omega))) (fun v2 => ?_))
          refine cons (opv (Ev.assign (.t rfl)) ?_)
          refine nil ?_
          refine bN ?_
          refine bN ?_
          refine pN ?_
          refine meet (X := OV × (List UInt8) × OV × (List Int)) (_, _, _, _) ⟨?_, ?_⟩ (by repeat first | exact Sub.nil | refine Sub.cons rfl ?_) (List.Sublist.cons_cons _ (List.Sublist.cons _ (List.sublist_append_right _ _)))
          · try dsimp only
            all_goals (rw [hw]; exact congrArg (xs ++ ·) hput)
          · try dsimp only
            all_goals rfl
        · try simp only [Bool.and_eq_true, Bool.or_eq_true, Bool.or_eq_false_iff, Bool.and_eq_false_iff, Bool.not_eq_true', Bool.not_eq_false', decide_eq_true_eq, decide_eq_false_iff_not, Decidable.not_not] at h2
          refine seq ?_
          refine region ?_
          refine cons (opv (Ev.eql_i (.t rfl) (.c (v := I 1) rfl)) ?_)
          refine cons (opv (Ev.assign (.t rfl)) ?_)
          refine nil ?_
          refine pN ?_
          first | refine condD rfl (fun h3 => ?_) (fun h3 => ?_) | refine cond rfl (fun h3 => ?_) (fun h3 => ?_)
          · try simp only [Bool.and_eq_true, Bool.or_eq_true, Bool.or_eq_false_iff, Bool.and_eq_false_iff, Bool.not_eq_true', Bool.not_eq_false', decide_eq_true_eq, decide_eq_false_iff_not, Decidable.not_not] at h3
            have hw : wi i.toNat = 4 := by unfold wi; rw [if_neg (by omega), if_pos (by omega)]
            have hput := putB_4 (l.getD i.toNat 0)
            refine region ?_
            refine cons (opv (Ev.move (.t rfl)) ?_)
            refine cons (opv (Ev.move (.t rfl)) ?_)
            refine cons (opv (Ev.move (.t rfl)) ?_)
            refine cons (opv (Ev.indexAddr Try.underlying63 ty23 (.t rfl) (.t rfl) (fun w I => hz.keep0 I.keeps) (fun _ => by omega)) ?_)
            refine cons (opv (Ev.loadS0 ty23 (.t rfl) (fun w I => hz.keep0 I.keeps) (fun _ => by omega)) ?_)
            refine cons (opv (Ev.conv_u64_u32 Try.underlying29 Try.underlying23 (.t rfl)) ?_)
            refine cons (callo en15 (.cons (.t rfl) (.cons (.t rfl) .nil)) (fun w I => put_uint32_ok _ _ _ w (outSl (f := f) (o := o) (u := u) (xs := xs) (b := b) hf hb rfl (fun r hr => by repeat first | exact List.mem_append_left _ hr | apply List.Mem.tail) w I) (by first | assumption | omega | (simp [putB_length]; done) | (simp [putB_length]; omega))) (fun v3 => ?_))
            refine cons (opv (Ev.assign (.t rfl)) ?_)
            refine nil ?_
            refine bN ?_
            refine bN ?_
            refine pN ?_
            refine meet (X := OV × (List UInt8) × OV × (List Int)) (_, _, _, _) ⟨?_, ?_⟩ (by repeat first | exact Sub.nil | refine Sub.cons rfl ?_) (List.Sublist.cons_cons _ (List.Sublist.cons _ (List.sublist_append_right _ _)))
            · try dsimp only
              all_goals (rw [hw]; exact congrArg (xs ++ ·) hput)
            · try dsimp only
              all_goals rfl
          · try simp only [Bool.and_eq_true, Bool.or_eq_true, Bool.or_eq_false_iff, Bool.and_eq_false_iff, Bool.not_eq_true', Bool.not_eq_false', decide_eq_true_eq, decide_eq_false_iff_not, Decidable.not_not] at h3
            refine seq ?_
            refine region ?_
            refine cons (opv (Ev.eql_i (.t rfl) (.c (v := I 2) rfl)) ?_)
            refine cons (opv (Ev.assign (.t rfl)) ?_)
            refine nil ?_
            refine pN ?_
            first | refine condD rfl (fun h4 => ?_) (fun h4 => ?_) | refine cond rfl (fun h4 => ?_) (fun h4 => ?_)
            · try simp only [Bool.and_eq_true, Bool.or_eq_true, Bool.or_eq_false_iff, Bool.and_eq_false_iff, Bool.not_eq_true', Bool.not_eq_false', decide_eq_true_eq, decide_eq_false_iff_not, Decidable.not_not] at h4
              have hw : wi i.toNat = 2 := by unfold wi; rw [if_neg (by omega), if_neg (by omega), if_pos (by omega)]
              have hput := putB_2 (l.getD i.toNat 0)
              refine region ?_
              refine cons (opv (Ev.move (.t rfl)) ?_)
              refine cons (opv (Ev.move (.t rfl)) ?_)
              refine cons (opv (Ev.move (.t rfl)) ?_)
              refine cons (opv (Ev.indexAddr Try.underlying63 ty23 (.t rfl) (.t rfl) (fun w I => hz.keep0 I.keeps) (fun _ => by omega)) ?_)
              refine cons (opv (Ev.loadS0 ty23 (.t rfl) (fun w I => hz.keep0 I.keeps) (fun _ => by omega)) ?_)
              refine cons (opv (Ev.conv_u64_u16 Try.underlying27 Try.underlying23 (.t rfl)) ?_)
              refine cons (callo en14 (.cons (.t rfl) (.cons (.t rfl) .nil)) (fun w I => put_uint16_ok _ _ _ w (outSl (f := f) (o := o) (u := u) (xs := xs) (b := b) hf hb rfl (fun r hr => by repeat first | exact List.mem_append_left _ hr | apply List.Mem.tail) w I) (by first | assumption | omega | (simp [putB_length]; done) | (simp [putB_length]; omega))) (fun v4 => ?_))
              refine cons (opv (Ev.assign (.t rfl)) ?_)
              refine nil ?_
              refine bN ?_
              refine bN ?_
              refine pN ?_
              refine meet (X := OV × (List UInt8) × OV × (List Int)) (_, _, _, _) ⟨?_, ?_⟩ (by repeat first | exact Sub.nil | refine Sub.cons rfl ?_) (List.Sublist.cons_cons _ (List.Sublist.cons _ (List.sublist_append_right _ _)))
              · try dsimp only
                all_goals (rw [hw]; exact congrArg (xs ++ ·) hput)
              · try dsimp only
                all_goals rfl
            · try simp only [Bool.and_eq_true, Bool.or_eq_true, Bool.or_eq_false_iff, Bool.and_eq_false_iff, Bool.not_eq_true', Bool.not_eq_false', decide_eq_true_eq, decide_eq_false_iff_not, Decidable.not_not] at h4
              have hw : wi i.toNat = 1 := by unfold wi; rw [if_neg (by omega), if_neg (by omega), if_neg (by omega)]
              have hput := putB_1 (l.getD i.toNat 0)
              refine region ?_
              refine cons (opv (Ev.move (.t rfl)) ?_)
              refine cons (opv (Ev.move (.t rfl)) ?_)
              refine cons (opv (Ev.move (.t rfl)) ?_)
              refine cons (opv (Ev.indexAddr Try.underlying63 ty23 (.t rfl) (.t rfl) (fun w I => hz.keep0 I.keeps) (fun _ => by omega)) ?_)
              refine cons (opv (Ev.loadS0 ty23 (.t rfl) (fun w I => hz.keep0 I.keeps) (fun _ => by omega)) ?_)
              refine cons (opv (Ev.conv_u64_u8 Try.underlying5 Try.underlying23 (.t rfl)) ?_)
              refine cons (callo en13 (.cons (.t rfl) (.cons (.t rfl) .nil)) (fun w I => put_uint8_ok _ _ _ w (outSl (f := f) (o := o) (u := u) (xs := xs) (b := b) hf hb rfl (fun r hr => by repeat first | exact List.mem_append_left _ hr | apply List.Mem.tail) w I) (by first | assumption | omega | (simp [putB_length]; done) | (simp [putB_length]; omega))) (fun v5 => ?_))
              refine cons (opv (Ev.assign (.t rfl)) ?_)
              refine nil ?_
              refine bN ?_
              refine bN ?_
              refine pN ?_
              refine meet (X := OV × (List UInt8) × OV × (List Int)) (_, _, _, _) ⟨?_, ?_⟩ (by repeat first | exact Sub.nil | refine Sub.cons rfl ?_) (List.Sublist.cons_cons _ (List.Sublist.cons _ (List.sublist_append_right _ _)))
              · try dsimp only
                all_goals (rw [hw]; exact congrArg (xs ++ ·) hput)
              · try dsimp only
                all_goals rfl
      obtain ⟨o2, xs2, pl2, ps2⟩ := x
      obtain ⟨hxs2, hps2⟩ : (xs2 = xs ++ putB (wi i.toNat) (l.getD i.toNat 0)) ∧ (ps2 = ps ++ [(xs.length : Int)]) := hx
      show Sat _ _ [(0, true, u.v), (1, true, z.v), (5, true, o2.v), (6, true, pl2.v), (7, true, I i)] [OwnS o2.v u8E xs2 5, OwnS pl2.v iE ps2 3]
      refine region ?_
      refine cons (opv (Ev.move (.t rfl)) ?_)
      refine cons (opv (Ev.add_i (.t rfl) (.c (v := I 1) rfl) (fun _ => by omega)) ?_)
      refine cons (opv (Ev.assign (.t rfl)) ?_)
      refine nil ?_
      refine pN ?_
      refine next (X := Int × Bool × OV × (List UInt8) × OV × (List Int)) (i + 1, true, _, _, _, _) ⟨?_, ?_, ?_, ?_⟩ ?_ (by repeat first | exact Sub.nil | refine Sub.cons rfl ?_) (by repeat first | exact List.Sublist.refl _ | apply List.Sublist.cons_cons | apply List.Sublist.cons)
      · try dsimp only
        omega
      · try dsimp only
        exact fun h => by cases h
      · try dsimp only
        have e : (i + 1).toNat = i.toNat + 1 := by omega
        rw [e, hxs2, hxs]; rfl
      · try dsimp only
        have e : (i + 1).toNat = i.toNat + 1 := by omega
        rw [e, plB_step, hps2, ← hps, ← hxs]
      · try dsimp only
        omega
    · try simp only [Bool.and_eq_true, Bool.or_eq_true, Bool.or_eq_false_iff, Bool.and_eq_false_iff, Bool.not_eq_true', Bool.not_eq_false', decide_eq_true_eq, decide_eq_false_iff_not, Decidable.not_not] at hge
      refine exit ?_
      refine pX ?_
      refine pX ?_
      refine bX ?_
      refine pN ?_
      refine seq ?_
      refine seq ?_
      refine region ?_
      refine cons (opv (Ev.assign (.c (v := I 0) rfl)) ?_)
      refine nil ?_
      refine pN ?_
      refine block ?_
      refine loop (X := Int) (fun x : Int => (0 ≤ x ∧ x ≤ i)) (fun x : Int => [(0, true, u.v), (1, true, z.v), (5, true, o.v), (6, true, pl.v), (8, true, I x)]) (fun x : Int => (outR f o xs ++ [OwnS pl.v iE ps 3])) (fun x : Int => (i - x).toNat) (0) ?_ (by repeat first | exact Sub.nil | refine Sub.cons rfl ?_) (by repeat first | exact List.Sublist.refl _ | apply List.Sublist.cons_cons | apply List.Sublist.cons) (fun x hx => ?_)
      · omega
      obtain ⟨k, rfl⟩ : ∃ y, y = x := ⟨x, rfl⟩
      have hk : 0 ≤ k ∧ k ≤ i := hx
      clear hx
      show Sat _ _ [(0, true, u.v), (1, true, z.v), (5, true, o.v), (6, true, pl.v), (8, true, I k)] (outR f o xs ++ [OwnS pl.v iE ps 3])
      refine seq ?_
      refine seq ?_
      refine region ?_
      refine cons (opv (Ev.move (.t rfl)) ?_)
      refine cons (opv (Ev.move (.t rfl)) ?_)
      refine cons (opv (Ev.len Try.underlying34 (.t rfl) (isSl_own (by repeat first | exact List.mem_append_right _ (List.Mem.head _) | apply List.Mem.tail))) ?_)
      refine cons (opv (Ev.lss_i (.t rfl) (.t rfl)) ?_)
      refine nil ?_
      refine pN ?_
      first | refine condD rfl (fun hlt => ?_) (fun hge => ?_) | refine cond rfl (fun hlt => ?_) (fun hge => ?_)
      · try simp only [Bool.and_eq_true, Bool.or_eq_true, Bool.or_eq_false_iff, Bool.and_eq_false_iff, Bool.not_eq_true', Bool.not_eq_false', decide_eq_true_eq, decide_eq_false_iff_not, Decidable.not_not] at hlt
        refine skip ?_
        refine pN ?_
        refine seq ?_
        refine block ?_
        refine seq ?_
        refine region ?_
        obtain ⟨r, hr⟩ := outB_at b l k.toNat i.toNat (by omega)
        rw [← hxs] at hr
        have hwk := wi_le k.toNat
        have hT := takeB_mid (outB b l k.toNat) r (wi k.toNat) (l.getD k.toNat 0) (by omega)
        have hB := bitsB_mid (outB b l k.toNat) r (wi k.toNat) (l.getD k.toNat 0) (by omega)
        rw [← hr] at hT hB
        have hBk := hB
        have hpk := outB_len b l k.toNat
        refine cons (opv (Ev.assign (.c (v := U64 0) rfl)) ?_)
        refine cons (opv (Ev.assign (.c (v := I 0) rfl)) ?_)
        refine nil ?_
        refine pN ?_
        refine seq ?_
        refine region ?_
        refine cons (opv (Ev.move (.t rfl)) ?_)
        refine cons (opv (Ev.move (.t rfl)) ?_)
        refine cons (opv (Ev.indexAddr Try.underlying63 ty23 (.t rfl) (.t rfl) (fun w I => hz.keep0 I.keeps) (fun _ => by omega)) ?_)
        refine cons (opv (Ev.loadS0 ty23 (.t rfl) (fun w I => hz.keep0 I.keeps) (fun _ => by omega)) ?_)
        refine cons (opv (Ev.assign (.t rfl)) ?_)
        refine cons (opv (Ev.assign (.c (v := I 64) rfl)) ?_)
        refine nil ?_
        refine pN ?_
        refine cut (X := UInt64 × Int) (fun x : UInt64 × Int => (x.1 = cutV (wi k.toNat) (l.getD k.toNat 0)) ∧ (x.2 = 8 * (wi k.toNat : Int))) (fun x : UInt64 × Int => [(0, true, u.v), (1, true, z.v), (5, true, o.v), (6, true, pl.v), (8, true, I k), (9, true, U64 x.1), (10, true, I 0), (11, true, U64 x.1), (12, true, I x.2)]) (fun x : UInt64 × Int => (outR f o xs ++ [OwnS pl.v iE ps 3])) ?_ (fun x hx => ?_)
        · refine seq ?_
          refine region ?_
          refine cons (opv (Ev.move (.t rfl)) ?_)
          refine cons (opv (Ev.rem_n (.t rfl) (.c (v := I 4) rfl) (fun _ => by omega) (fun _ => by omega)) ?_)
          refine nil ?_
          refine pN ?_
          refine block ?_
          refine seq ?_
          refine region ?_
          refine cons (opv (Ev.eql_i (.t rfl) (.c (v := I 0) rfl)) ?_)
          refine cons (opv (Ev.assign (.t rfl)) ?_)
          refine nil ?_
          refine pN ?_
          first | refine condD rfl (fun h6 => ?_) (fun h6 => ?_) | refine cond rfl (fun h6 => ?_) (fun h6 => ?_)
          · try simp only [Bool.and_eq_true, Bool.or_eq_true, Bool.or_eq_false_iff, Bool.and_eq_false_iff, Bool.not_eq_true', Bool.not_eq_false', decide_eq_true_eq, decide_eq_false_iff_not, Decidable.not_not] at h6
            have hw : wi k.toNat = 8 := by unfold wi; rw [if_pos (by omega)]
            rw [hw] at hT hB
            have hcv := (cutV_8 (l.getD k.toNat 0)).symm
            refine region ?_
            refine cons (opv (Ev.move (.t rfl)) ?_)
            refine cons (opv (Ev.move (.t rfl)) ?_)
            refine cons (opv (Ev.move (.t rfl)) ?_)
            refine cons (opv (Ev.indexAddr Try.underlying34 ty3 (.t rfl) (.t rfl) (isSl_own (by repeat first | exact List.mem_append_right _ (List.Mem.head _) | apply List.Mem.tail)) (fun _ => by omega)) ?_)
            refine cons (opv (Ev.to (v' := I ((outB b l k.toNat).length : Int)) (Ev.loadS0 ty3 (.t rfl) (isSl_own (by repeat first | exact List.mem_append_right _ (List.Mem.head _) | apply List.Mem.tail)) (fun _ => by omega)) (by show I (ps.getD k.toNat 0) = _; rw [hps, plB_get _ _ _ _ (by omega)])) ?_)
            refine cons (callv en26 (.cons (.t rfl) (.cons (.t rfl) .nil)) (fun w I => (by have h := take_uint64_ok _ xs ((outB b l k.toNat).length : Int) w (outSl (f := f) (o := o) (u := u) (xs := xs) (b := b) hf hb rfl (fun r hr => by repeat first | exact List.mem_append_left _ hr | apply List.Mem.tail) w I); rw [hT] at h; exact h)) ?_)
            refine cons (opv (Ev.move (.t rfl)) ?_)
            refine cons (opv (Ev.to (v' := U64 (l.getD k.toNat 0)) (Ev.extract (.t rfl) rfl) (congrArg U64 (cutV_8 _))) ?_)
            refine cons (opv (Ev.extract (.t rfl) rfl) ?_)
            refine cons (opv (Ev.assign (.t rfl)) ?_)
            refine cons (opv (Ev.assign (.t rfl)) ?_)
            refine nil ?_
            refine bN ?_
            refine pN ?_
            refine meet (X := UInt64 × Int) (_, _) ⟨?_, ?_⟩ (by repeat first | exact Sub.nil | refine Sub.cons rfl ?_) (by repeat first | exact List.Sublist.refl _ | apply List.Sublist.cons_cons | apply List.Sublist.cons)
            · try dsimp only
              all_goals (rw [hw]; exact hcv)
            · try dsimp only
              all_goals (rw [hw]; rfl)
          · try simp only [Bool.and_eq_true, Bool.or_eq_true, Bool.or_eq_false_iff, Bool.and_eq_false_iff, Bool.not_eq_true', Bool.not_eq_false', decide_eq_true_eq, decide_eq_false_iff_not, Decidable.not_not] at h6
            refine seq ?_
            refine region ?_
            refine cons (opv (Ev.eql_i (.t rfl) (.c (v := I 1) rfl)) ?_)
            refine cons (opv (Ev.assign (.t rfl)) ?_)
            refine nil ?_
            refine pN ?_
            first | refine condD rfl (fun h7 => ?_) (fun h7 => ?_) | refine cond rfl (fun h7 => ?_) (fun h7 => ?_)
            · try simp only [Bool.and_eq_true, Bool.or_eq_true, Bool.or_eq_false_iff, Bool.and_eq_false_iff, Bool.not_eq_true', Bool.not_eq_false', decide_eq_true_eq, decide_eq_false_iff_not, Decidable.not_not] at h7
              have hw : wi k.toNat = 4 := by unfold wi; rw [if_neg (by omega), if_pos (by omega)]
              rw [hw] at hT hB
              have hcv := Eq.refl (cutV 4 (l.getD k.toNat 0))
              refine seq ?_
              refine region ?_
              refine cons (opv (Ev.move (.t rfl)) ?_)
              refine cons (opv (Ev.move (.t rfl)) ?_)
              refine cons (opv (Ev.move (.t rfl)) ?_)
              refine cons (opv (Ev.indexAddr Try.underlying34 ty3 (.t rfl) (.t rfl) (isSl_own (by repeat first | exact List.mem_append_right _ (List.Mem.head _) | apply List.Mem.tail)) (fun _ => by omega)) ?_)
              refine cons (opv (Ev.to (v' := I ((outB b l k.toNat).length : Int)) (Ev.loadS0 ty3 (.t rfl) (isSl_own (by repeat first | exact List.mem_append_right _ (List.Mem.head _) | apply List.Mem.tail)) (fun _ => by omega)) (by show I (ps.getD k.toNat 0) = _; rw [hps, plB_get _ _ _ _ (by omega)])) ?_)
              refine cons (callv en25 (.cons (.t rfl) (.cons (.t rfl) .nil)) (fun w I => (by have h := take_uint32_ok _ xs ((outB b l k.toNat).length : Int) w (outSl (f := f) (o := o) (u := u) (xs := xs) (b := b) hf hb rfl (fun r hr => by repeat first | exact List.mem_append_left _ hr | apply List.Mem.tail) w I); rw [hT] at h; exact h)) ?_)
              refine cons (opv (Ev.move (.t rfl)) ?_)
              refine cons (opv (Ev.extract (.t rfl) rfl) ?_)
              refine cons (opv (Ev.extract (.t rfl) rfl) ?_)
              refine cons (opv (Ev.assign (.t rfl)) ?_)
              refine cons (opv (Ev.assign (.t rfl)) ?_)
              refine nil ?_
              refine pN ?_
              refine region ?_
              refine cons (opv (Ev.move (.t rfl)) ?_)
              refine cons (opv (Ev.to (v' := U64 (cutV 4 (l.getD k.toNat 0))) (Ev.conv_u32_u64 Try.underlying23 Try.underlying29 (.t rfl)) (congrArg U64 (cut32 (cutV_lt 4 _ (by omega))))) ?_)
              refine cons (opv (Ev.move (.t rfl)) ?_)
              refine cons (opv (Ev.move (.t rfl)) ?_)
              refine cons (opv (Ev.to (v' := U64 (cutV 4 (l.getD k.toNat 0))) (Ev.rem_u64 (.t rfl) (.c (v := U64 4294967296) rfl) (fun _ => by decide)) (congrArg U64 (cut4_mod _))) ?_)
              refine cons (opv (Ev.assign (.t rfl)) ?_)
              refine cons (opv (Ev.assign (.t rfl)) ?_)
              refine cons (opv (Ev.assign (.t rfl)) ?_)
              refine cons (opv (Ev.assign (.c (v := I 32) rfl)) ?_)
              refine nil ?_
              refine bN ?_
              refine pN ?_
              refine meet (X := UInt64 × Int) (_, _) ⟨?_, ?_⟩ (by repeat first | exact Sub.nil | refine Sub.cons rfl ?_) (by repeat first | exact List.Sublist.refl _ | apply List.Sublist.cons_cons | apply List.Sublist.cons)
              · try dsimp only
                all_goals (rw [hw]; exact hcv)
              · try dsimp only
                all_goals (rw [hw]; rfl)
            · try simp only [Bool.and_eq_true, Bool.or_eq_true, Bool.or_eq_false_iff, Bool.and_eq_false_iff, Bool.not_eq_true', Bool.not_eq_false', decide_eq_true_eq, decide_eq_false_iff_not, Decidable.not_not] at h7
              refine seq ?_
              refine region ?_
              refine cons (opv (Ev.eql_i (.t rfl) (.c (v := I 2) rfl)) ?_)
              refine cons (opv (Ev.assign (.t rfl)) ?_)
              refine nil ?_
              refine pN ?_
              first | refine condD rfl (fun h8 => ?_) (fun h8 => ?_) | refine cond rfl (fun h8 => ?_) (fun h8 => ?_)
              · try simp only [Bool.and_eq_true, Bool.or_eq_true, Bool.or_eq_false_iff, Bool.and_eq_false_iff, Bool.not_eq_true', Bool.not_eq_false', decide_eq_true_eq, decide_eq_false_iff_not, Decidable.not_not] at h8
                have hw : wi k.toNat = 2 := by unfold wi; rw [if_neg (by omega), if_neg (by omega), if_pos (by omega)]
                rw [hw] at hT hB
                have hcv := Eq.refl (cutV 2 (l.getD k.toNat 0))
                refine seq ?_
                refine region ?_
                refine cons (opv (Ev.move (.t rfl)) ?_)
                refine cons (opv (Ev.move (.t rfl)) ?_)
                refine cons (opv (Ev.move (.t rfl)) ?_)
                refine cons (opv (Ev.indexAddr Try.underlying34 ty3 (.t rfl) (.t rfl) (isSl_own (by repeat first | exact List.mem_append_right _ (List.Mem.head _) | apply List.Mem.tail)) (fun _ => by omega)) ?_)
                refine cons (opv (Ev.to (v' := I ((outB b l k.toNat).length : Int)) (Ev.loadS0 ty3 (.t rfl) (isSl_own (by repeat first | exact List.mem_append_right _ (List.Mem.head _) | apply List.Mem.tail)) (fun _ => by omega)) (by show I (ps.getD k.toNat 0) = _; rw [hps, plB_get _ _ _ _ (by omega)])) ?_)
                refine cons (callv en24 (.cons (.t rfl) (.cons (.t rfl) .nil)) (fun w I => (by have h := take_uint16_ok _ xs ((outB b l k.toNat).length : Int) w (outSl (f := f) (o := o) (u := u) (xs := xs) (b := b) hf hb rfl (fun r hr => by repeat first | exact List.mem_append_left _ hr | apply List.Mem.tail) w I); rw [hT] at h; exact h)) ?_)
                refine cons (opv (Ev.move (.t rfl)) ?_)
                refine cons (opv (Ev.extract (.t rfl) rfl) ?_)
                refine cons (opv (Ev.extract (.t rfl) rfl) ?_)
                refine cons (opv (Ev.assign (.t rfl)) ?_)
                refine cons (opv (Ev.assign (.t rfl)) ?_)
                refine nil ?_
                refine pN ?_
                refine region ?_
                refine cons (opv (Ev.move (.t rfl)) ?_)
                refine cons (opv (Ev.to (v' := U64 (cutV 2 (l.getD k.toNat 0))) (Ev.conv_u16_u64 Try.underlying23 Try.underlying27 (.t rfl)) (congrArg U64 (cut16 (cutV_lt 2 _ (by omega))))) ?_)
                refine cons (opv (Ev.move (.t rfl)) ?_)
                refine cons (opv (Ev.move (.t rfl)) ?_)
                refine cons (opv (Ev.to (v' := U64 (cutV 2 (l.getD k.toNat 0))) (Ev.rem_u64 (.t rfl) (.c (v := U64 65536) rfl) (fun _ => by decide)) (congrArg U64 (cut2_mod _))) ?_)
                refine cons (opv (Ev.assign (.t rfl)) ?_)
                refine cons (opv (Ev.assign (.t rfl)) ?_)
                refine cons (opv (Ev.assign (.t rfl)) ?_)
                refine cons (opv (Ev.assign (.c (v := I 16) rfl)) ?_)
                refine nil ?_
                refine bN ?_
                refine pN ?_
                refine meet (X := UInt64 × Int) (_, _) ⟨?_, ?_⟩ (by repeat first | exact Sub.nil | refine Sub.cons rfl ?_) (by repeat first | exact List.Sublist.refl _ | apply List.Sublist.cons_cons | apply List.Sublist.cons)
                · try dsimp only
                  all_goals (rw [hw]; exact hcv)
                · try dsimp only
                  all_goals (rw [hw]; rfl)
              · try simp only [Bool.and_eq_true, Bool.or_eq_true, Bool.or_eq_false_iff, Bool.and_eq_false_iff, Bool.not_eq_true', Bool.not_eq_false', decide_eq_true_eq, decide_eq_false_iff_not, Decidable.not_not] at h8
                have hw : wi k.toNat = 1 := by unfold wi; rw [if_neg (by omega), if_neg (by omega), if_neg (by omega)]
                rw [hw] at hT hB
                have hcv := Eq.refl (cutV 1 (l.getD k.toNat 0))
                refine seq ?_
                refine region ?_
                refine cons (opv (Ev.move (.t rfl)) ?_)
                refine cons (opv (Ev.move (.t rfl)) ?_)
                refine cons (opv (Ev.move (.t rfl)) ?_)
                refine cons (opv (Ev.indexAddr Try.underlying34 ty3 (.t rfl) (.t rfl) (isSl_own (by repeat first | exact List.mem_append_right _ (List.Mem.head _) | apply List.Mem.tail)) (fun _ => by omega)) ?_)
                refine cons (opv (Ev.to (v' := I ((outB b l k.toNat).length : Int)) (Ev.loadS0 ty3 (.t rfl) (isSl_own (by repeat first | exact List.mem_append_right _ (List.Mem.head _) | apply List.Mem.tail)) (fun _ => by omega)) (by show I (ps.getD k.toNat 0) = _; rw [hps, plB_get _ _ _ _ (by omega)])) ?_)
                refine cons (callv en23 (.cons (.t rfl) (.cons (.t rfl) .nil)) (fun w I => (by have h := take_uint8_ok _ xs ((outB b l k.toNat).length : Int) w (outSl (f := f) (o := o) (u := u) (xs := xs) (b := b) hf hb rfl (fun r hr => by repeat first | exact List.mem_append_left _ hr | apply List.Mem.tail) w I); rw [hT] at h; exact h)) ?_)
                refine cons (opv (Ev.move (.t rfl)) ?_)
                refine cons (opv (Ev.extract (.t rfl) rfl) ?_)
                refine cons (opv (Ev.extract (.t rfl) rfl) ?_)
                refine cons (opv (Ev.assign (.t rfl)) ?_)
                refine cons (opv (Ev.assign (.t rfl)) ?_)
                refine nil ?_
                refine pN ?_
                refine region ?_
                refine cons (opv (Ev.move (.t rfl)) ?_)
                refine cons (opv (Ev.to (v' := U64 (cutV 1 (l.getD k.toNat 0))) (Ev.conv_u8_u64 Try.underlying23 Try.underlying5 (.t rfl)) (congrArg U64 (cut8 (cutV_lt 1 _ (by omega))))) ?_)
                refine cons (opv (Ev.move (.t rfl)) ?_)
                refine cons (opv (Ev.move (.t rfl)) ?_)
                refine cons (opv (Ev.to (v' := U64 (cutV 1 (l.getD k.toNat 0))) (Ev.rem_u64 (.t rfl) (.c (v := U64 256) rfl) (fun _ => by decide)) (congrArg U64 (cut1_mod _))) ?_)
                refine cons (opv (Ev.assign (.t rfl)) ?_)
                refine cons (opv (Ev.assign (.t rfl)) ?_)
                refine cons (opv (Ev.assign (.t rfl)) ?_)
                refine cons (opv (Ev.assign (.c (v := I 8) rfl)) ?_)
                refine nil ?_
                refine bN ?_
                refine pN ?_
                refine meet (X := UInt64 × Int) (_, _) ⟨?_, ?_⟩ (by repeat first | exact Sub.nil | refine Sub.cons rfl ?_) (by repeat first | exact List.Sublist.refl _ | apply List.Sublist.cons_cons | apply List.Sublist.cons)
                · try dsimp only
                  all_goals (rw [hw]; exact hcv)
                · try dsimp only
                  all_goals (rw [hw]; rfl)
        obtain ⟨want, nn⟩ := x
        obtain ⟨hwant, hnn⟩ : (want = cutV (wi k.toNat) (l.getD k.toNat 0)) ∧ (nn = 8 * (wi k.toNat : Int)) := hx
        show Sat _ _ [(0, true, u.v), (1, true, z.v), (5, true, o.v), (6, true, pl.v), (8, true, I k), (9, true, U64 want), (10, true, I 0), (11, true, U64 want), (12, true, I nn)] (outR f o xs ++ [OwnS pl.v iE ps 3])
        refine seq ?_
        refine region ?_
        refine cons (opv (Ev.move (.t rfl)) ?_)
        refine cons (opv (Ev.move (.t rfl)) ?_)
        refine cons (opv (Ev.move (.t rfl)) ?_)
        refine cons (opv (Ev.indexAddr Try.underlying34 ty3 (.t rfl) (.t rfl) (isSl_own (by repeat first | exact List.mem_append_right _ (List.Mem.head _) | apply List.Mem.tail)) (fun _ => by omega)) ?_)
        refine cons (opv (Ev.to (v' := I ((outB b l k.toNat).length : Int)) (Ev.loadS0 ty3 (.t rfl) (isSl_own (by repeat first | exact List.mem_append_right _ (List.Mem.head _) | apply List.Mem.tail)) (fun _ => by omega)) (by show I (ps.getD k.toNat 0) = _; rw [hps, plB_get _ _ _ _ (by omega)])) ?_)
        refine cons (opv (Ev.mul_i (.c (v := I 8) rfl) (.t rfl) (fun _ => by omega)) ?_)
        refine cons (opv (Ev.to (v' := I (8 * (wi k.toNat : Int))) (Ev.move (.t rfl)) (by rw [hnn])) ?_)
        refine cons (callv en36 (.cons (.t rfl) (.cons (.t rfl) (.cons (.t rfl) .nil))) (fun w I => (by have h := bits_ok _ xs (8 * ((outB b l k.toNat).length : Int)) (8 * (wi k.toNat : Int)) w (outSl (f := f) (o := o) (u := u) (xs := xs) (b := b) hf hb rfl (fun r hr => by repeat first | exact List.mem_append_left _ hr | apply List.Mem.tail) w I) (by omega) (by unfold Fit; omega) (by unfold Fit; omega); rw [hBk] at h; exact h)) ?_)
        refine cons (opv (Ev.move (.t rfl)) ?_)
        refine cons (opv (Ev.extract (.t rfl) rfl) ?_)
        refine cons (opv (Ev.extract (.t rfl) rfl) ?_)
        refine cons (opv (Ev.assign (.t rfl)) ?_)
        refine cons (opv (Ev.assign (.t rfl)) ?_)
        refine nil ?_
        refine pN ?_
        refine seq ?_
        refine region ?_
        refine cons (opv (Ev.move (.t rfl)) ?_)
        refine cons (opv (Ev.neq_i (.t rfl) (.c (v := I 0) rfl)) ?_)
        refine cons (opv (Ev.move (.t rfl)) ?_)
        refine cons (opg rfl rfl (Ev.move (.t rfl)) ?_)
        refine cons (opg rfl rfl (Ev.neq_i (.g rfl id) (.c (v := I 0) rfl)) ?_)
        refine cons (opv (Ev.pickO (.t rfl) (.c (v := .bool true) rfl) (fun {_} h => by cases h; rfl) ⟨_, rfl⟩ (by intro h1 h; first | (rw [h] <;> rfl) | (rw [h, h1] <;> rfl) | simp_all)) ?_)
        refine cons (opv (Ev.move (.t rfl)) ?_)
        refine cons (opg rfl rfl (Ev.move (.t rfl)) ?_)
        refine cons (opg rfl rfl (Ev.move (.t rfl)) ?_)
        refine cons (opg rfl rfl (Ev.neq_u64 (.g rfl id) (.g rfl id)) ?_)
        refine cons (opv (Ev.pickO (.t rfl) (.c (v := .bool true) rfl) (fun {_} h => by cases h; rfl) ⟨_, rfl⟩ (by intro h1 h; first | (rw [h] <;> rfl) | (rw [h, h1] <;> rfl) | simp_all)) ?_)
        refine cons (opv (Ev.move (.t rfl)) ?_)
        refine cons (opg rfl rfl (Ev.move (.t rfl)) ?_)
        refine cons (opg rfl rfl (Ev.move (.t rfl)) ?_)
        refine cons (opg rfl rfl (Ev.neq_u64 (.g rfl id) (.g rfl id)) ?_)
        refine cons (opv (Ev.pickO (.t rfl) (.c (v := .bool true) rfl) (fun {_} h => by cases h; rfl) ⟨_, rfl⟩ (by intro h1 h; first | (rw [h] <;> rfl) | (rw [h, h1] <;> rfl) | simp_all)) ?_)
        refine nil ?_
        refine pN ?_
        first | refine condD rfl (fun h9 => ?_) (fun h9 => ?_) | refine cond rfl (fun h9 => ?_) (fun h9 => ?_)
        · exfalso
          rw [hwant] at h9
          simp at h9
        · refine skip ?_
          refine bN ?_
          refine pN ?_
          refine region ?_
          refine cons (opv (Ev.move (.t rfl)) ?_)
          refine cons (opv (Ev.add_i (.t rfl) (.c (v := I 1) rfl) (fun _ => by omega)) ?_)
          refine cons (opv (Ev.assign (.t rfl)) ?_)
          refine nil ?_
          refine pN ?_
          refine next (X := Int) (k + 1) ?_ ?_ (by repeat first | exact Sub.nil | refine Sub.cons rfl ?_) (by repeat first | exact List.Sublist.refl _ | apply List.Sublist.cons_cons | apply List.Sublist.cons)
          · try dsimp only
            omega
          · try dsimp only
            omega
      · try simp only [Bool.and_eq_true, Bool.or_eq_true, Bool.or_eq_false_iff, Bool.and_eq_false_iff, Bool.not_eq_true', Bool.not_eq_false', decide_eq_true_eq, decide_eq_false_iff_not, Decidable.not_not] at hge
        refine exit ?_
        refine pX ?_
        refine pX ?_
        refine bX ?_
        refine pN ?_
        refine seq ?_
        refine region ?_
        refine cons (opv (Ev.move (.t rfl)) ?_)
        refine cons (opv (Ev.len Try.underlying22 (.t rfl) (fun w I => outSl (f := f) (o := o) (u := u) (xs := xs) (b := b) hf hb rfl (fun r hr => by repeat first | exact List.mem_append_left _ hr | apply List.Mem.tail) w I)) ?_)
        refine cons (opv (Ev.move (.t rfl)) ?_)
        refine cons (opv (Ev.len Try.underlying22 (.t rfl) (fun w I => hb.keep0 I.keeps)) ?_)
        refine cons (opv (Ev.geq_i (.t rfl) (.t rfl)) ?_)
        refine cons (opv (Ev.to (v' := .bool true) (Ev.move (.t rfl)) (congrArg Value.bool (decide_eq_true (by omega)))) ?_)
        refine cons (opg rfl rfl (Ev.move (.t rfl)) ?_)
        refine cons (opg rfl rfl (Ev.move (.t rfl)) ?_)
        refine cons (opg rfl rfl (Ev.len Try.underlying22 (.g rfl id) (fun w I => hb.keep0 I.keeps)) ?_)
        refine cons (opg rfl rfl (Ev.sliceH Try.underlying22 ty5 (.g rfl id) (.g rfl id) (fun w I => outSl (f := f) (o := o) (u := u) (xs := xs) (b := b) hf hb rfl (fun r hr => by repeat first | exact List.mem_append_left _ hr | apply List.Mem.tail) w I) (fun _ => by omega)) ?_)
        refine cons (opg rfl rfl (Ev.move (.t rfl)) ?_)
        refine cons (callg rfl rfl en18 (.cons (.g rfl id) (.cons (.g rfl id) .nil)) (fun hg w I => sameBytes_ok _ _ _ _ w (IsSl.sub (w := w) (outSl (f := f) (o := o) (u := u) (xs := xs) (b := b) hf hb rfl (fun r hr => by repeat first | exact List.mem_append_left _ hr | apply List.Mem.tail) w I) (by omega) (by omega)) (hb.keep0 I.keeps)) ?_)
        refine cons (opv (Ev.pickA (.t rfl) (fun {_} h => by cases h; rfl) ⟨_, rfl⟩ (by intro h1 h; first | (rw [h] <;> rfl) | (rw [h, h1] <;> rfl) | simp_all) (.c (v := .bool false) rfl)) ?_)
        refine cons (opv (Ev.assign (.t rfl)) ?_)
        refine nil ?_
        refine pN ?_
        refine ret ?_
        refine done rfl (.tmp rfl .nil) (retE ?_)
        refine congrArg Value.bool ?_
        rw [hxs]
        simp [outB_take]
end Go.Proofs.Ytcmpdhggeilkfaa
