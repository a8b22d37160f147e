/- packet -/
import Derived.Test.YtegcihhhighipaaP25
set_option linter.unusedVariables false
set_option linter.unusedSimpArgs false
namespace Go.Proofs.Ytegcihhhighipaa
open Go Go.Gx

theorem numB_putB4 (s : UInt32) : numB (putB 4 s.toUInt64) = s.toUInt64 := by
  have hs := s.toNat_lt
  have e : putB 4 s.toUInt64 = [(shr64 s.toUInt64 24).toUInt8, (shr64 s.toUInt64 16).toUInt8, (shr64 s.toUInt64 8).toUInt8, (shr64 s.toUInt64 0).toUInt8] := rfl
  rw [e]
  simp only [numB, List.foldl]
  apply UInt64.toNat_inj.1
  simp [toNat_shr64]
  omega
theorem takeB2 (b : List UInt8) (p : Nat) (x : UInt16) (h : p + 2 ≤ b.length) (h0 : b.getD p 0 = (shr64 x.toUInt64 8).toUInt8) (h1 : b.getD (p + 1) 0 = (shr64 x.toUInt64 0).toUInt8) : (takeB b p 2).1 = x.toUInt64 := by
  rw [takeB_bytes b p h, h0, h1]
  exact numB_putB x
theorem four_bytes (b : List UInt8) (p : Nat) (h : p + 4 ≤ b.length) : (b.take (p + 4)).drop p = [b.getD p 0, b.getD (p + 1) 0, b.getD (p + 2) 0, b.getD (p + 3) 0] := by
  have h1 := take_two b p (by omega)
  have h2 := take_two b (p + 2) (by omega)
  have e : b.take (p + 4) = b.take p ++ [b.getD p 0, b.getD (p + 1) 0, b.getD (p + 2) 0, b.getD (p + 3) 0] := by
    show b.take (p + 2 + 2) = _
    rw [h2, h1, List.append_assoc]
    rfl
  rw [e]
  have hl : (b.take p).length = p := by simp; omega
  rw [List.drop_append, hl]
  simp
theorem takeB4 (b : List UInt8) (p : Nat) (x : UInt32) (h : p + 4 ≤ b.length) (h0 : b.getD p 0 = (shr64 x.toUInt64 24).toUInt8) (h1 : b.getD (p + 1) 0 = (shr64 x.toUInt64 16).toUInt8) (h2 : b.getD (p + 2) 0 = (shr64 x.toUInt64 8).toUInt8) (h3 : b.getD (p + 3) 0 = (shr64 x.toUInt64 0).toUInt8) : (takeB b p 4).1 = x.toUInt64 := by
  rw [takeB_num b p 4 (by omega)]
  have e : (b.take ((p : Int) + (4 : Nat)).toNat).drop (p : Int).toNat = (b.take (p + 4)).drop p := by
    have e1 : ((p : Int) + (4 : Nat)).toNat = p + 4 := by omega
    rw [e1, Int.toNat_natCast]
  rw [e, four_bytes b p h, h0, h1, h2, h3]
  exact numB_putB4 x
theorem cut4_mid (P X R : List UInt8) (p q : Nat) (hp : P.length = p) (hq : P.length + X.length = q) : cut4 (P ++ (X ++ R)) p q = X := by
  subst hp
  subst hq
  unfold cut4
  rw [← List.append_assoc, List.take_append_of_le_length (by simp), List.take_of_length_le (by simp), List.drop_left]
theorem addr_four (a : SAddr) (hv : a.v6 = false) (hc : checkA a = 0) : (⟨false, cpyV (Vector.replicate 16 0) (addrB a) 0⟩ : SAddr) = a := by
  have h := (checkA_iff a).1 hc hv
  have hl : (addrB a).length = 4 := by rw [addrB_length, hv]; rfl
  obtain ⟨v, b⟩ := a
  have hv : v = false := hv
  subst hv
  congr 1
  apply Vector.ext
  intro i hi
  by_cases h4 : i < 4
  · simp only [cpyV, Vector.getElem_ofFn, hl, h4, if_true]
    simp [addrB, List.getD, h4, hi]
  · simp only [cpyV, Vector.getElem_ofFn, hl, h4, if_false, Fin.getElem_fin, Vector.getElem_replicate]
    exact (h i (by omega) hi).symm
theorem addr_six (a : SAddr) (hv : a.v6 = true) : (⟨true, vecOf 16 (addrB a) 0⟩ : SAddr) = a := by
  obtain ⟨v, b⟩ := a
  have hv : v = true := hv
  subst hv
  congr 1
  apply Vector.ext
  intro i hi
  simp [vecOf, addrB, List.getD, hi]
/-- What a front says of a header. -/
def frontHd (h : SHeader) : SHeader := { eHeader.zero with src := h.src, dst := h.dst, proto := h.proto, tTL := h.tTL, class_ := h.class_, id := h.id }
theorem fourB_length (h : SHeader) (n : Int) (s : UInt16) (hv : h.src.v6 = false) (hv2 : h.dst.v6 = false) : (fourB h n s).length = 20 := by
  have h1 : (addrB h.src).length = 4 := by rw [addrB_length, hv]; rfl
  have h2 : (addrB h.dst).length = 4 := by rw [addrB_length, hv2]; rfl
  unfold fourB
  simp [h1, h2]
theorem front4_make (h : SHeader) (n : Int) (s : UInt16) (r : List UInt8) (hv : h.src.v6 = false) (hv2 : h.dst.v6 = false) (ha : checkA h.src = 0) (hb : checkA h.dst = 0) (hid : h.id ≤ 65535) (hn : 0 ≤ n ∧ n ≤ 65535) :
    frontB (fourB h n s ++ r) = (frontHd h, n, 0) := by
  have h1 : (addrB h.src).length = 4 := by rw [addrB_length, hv]; rfl
  have h2 : (addrB h.dst).length = 4 := by rw [addrB_length, hv2]; rfl
  have hl := fourB_length h n s hv hv2
  have hL : 20 ≤ (fourB h n s ++ r).length := by simp [hl]
  have hp := (part_eq (fourB h n s ++ r) hL).2 ⟨rfl, rfl⟩
  have hid2 : h.id.toNat ≤ 65535 := by simpa [UInt32.le_iff_toNat_le] using hid
  have e0 : (fourB h n s ++ r).getD 0 0 = 69 := rfl
  have t4 : (takeB (fourB h n s ++ r) 4 2).1 = h.id.toUInt16.toUInt64 := by
    have e : h.id.toUInt16 = h.id.toUInt64.toUInt16 := by apply UInt16.toNat_inj.1; simp
    have k := putB2_cut h.id.toUInt64
    rw [← e] at k
    refine takeB2 _ 4 _ (by omega) ?_ ?_
    · exact (congrArg (fun l : List UInt8 => l.getD 0 0) k).symm
    · exact (congrArg (fun l : List UInt8 => l.getD 1 0) k).symm
  have t2 : (takeB (fourB h n s ++ r) 2 2).1 = (UInt16.ofInt n).toUInt64 := by
    have k := putB2_int n
    refine takeB2 _ 2 _ (by omega) ?_ ?_
    · exact (congrArg (fun l : List UInt8 => l.getD 0 0) k).symm
    · exact (congrArg (fun l : List UInt8 => l.getD 1 0) k).symm
  have a1 : cut4 (fourB h n s ++ r) 12 16 = addrB h.src := by
    have k := cut4_mid ([69, h.class_] ++ (putB 2 (UInt64.ofInt n) ++ (putB 2 h.id.toUInt64 ++ ([64, 0, h.tTL, h.proto] ++ putB 2 s.toUInt64)))) (addrB h.src) (addrB h.dst ++ r) 12 16 rfl (by rw [h1]; rfl)
    rw [← k]
    unfold fourB
    simp only [List.append_assoc]
  have a2 : cut4 (fourB h n s ++ r) 16 20 = addrB h.dst := by
    have k := cut4_mid ([69, h.class_] ++ (putB 2 (UInt64.ofInt n) ++ (putB 2 h.id.toUInt64 ++ ([64, 0, h.tTL, h.proto] ++ (putB 2 s.toUInt64 ++ addrB h.src))))) (addrB h.dst) r 16 20 (by simp [h1]) (by simp [h1, h2])
    rw [← k]
    unfold fourB
    simp only [List.append_assoc]
  unfold frontB
  rw [if_neg (by omega), e0, if_pos (by decide), if_neg (by omega), if_neg (by rintro (k | k); exact k rfl; exact k hp)]
  have hh : hd4 (fourB h n s ++ r) = frontHd h := by
    unfold hd4 frontHd
    rw [t4, a1, a2, addr_four h.src hv ha, addr_four h.dst hv2 hb]
    have e : h.id.toUInt16.toUInt64.toUInt16.toUInt32 = h.id := by
      apply UInt32.toNat_inj.1
      simp
      omega
    rw [e]
    rfl
  have hnn : ((takeB (fourB h n s ++ r) 2 2).1.toUInt16.toNat : Int) = n := by
    rw [t2]
    simp [UInt16.ofInt]
    omega
  rw [hh, hnn]
theorem six_first (c : UInt8) (i : UInt32) (hi : i ≤ 1048575) : shr8 (shr64 (1610612736 ||| shl32 c.toUInt32 20 ||| i).toUInt64 24).toUInt8 4 = 6 ∧ (shr32 (1610612736 ||| shl32 c.toUInt32 20 ||| i) 20).toUInt8 = c ∧ (1610612736 ||| shl32 c.toUInt32 20 ||| i) &&& 1048575 = i := by
  have hX := congrArg UInt64.toNat (first_eq c i hi)
  have h1 := c.toNat_lt
  have h2 : i.toNat ≤ 1048575 := by simpa [UInt32.le_iff_toNat_le] using hi
  generalize (1610612736 ||| shl32 c.toUInt32 20 ||| i) = X at hX ⊢
  rw [UInt64.toNat_add, UInt64.toNat_add, toNat_shl64, UInt8.toNat_toUInt64, UInt32.toNat_toUInt64, UInt32.toNat_toUInt64] at hX
  have e5 : (1610612736 : UInt64).toNat = 1610612736 := by decide
  rw [e5] at hX
  have hX2 : X.toNat = 1610612736 + c.toNat * 1048576 + i.toNat := by omega
  refine ⟨?_, ?_, ?_⟩
  · apply UInt8.toNat_inj.1
    simp [shr8, toNat_shr64]
    omega
  · apply UInt8.toNat_inj.1
    simp [shr32]
    omega
  · apply UInt32.toNat_inj.1
    rw [UInt32.toNat_and]
    have e : (1048575 : UInt32).toNat = 2 ^ 20 - 1 := by decide
    rw [e, Nat.and_two_pow_sub_one_eq_mod]
    omega
theorem headB_six (h : SHeader) (n : Int) (hv : h.src.v6 = true) : headB h n = putB 4 (1610612736 ||| shl32 h.class_.toUInt32 20 ||| h.id).toUInt64 ++ (putB 2 (UInt16.ofInt n).toUInt64 ++ ([h.proto, h.tTL] ++ (addrB h.src ++ addrB h.dst))) := by
  unfold headB
  rw [if_pos hv]
  simp only [List.append_assoc]
theorem front6_make (h : SHeader) (n : Int) (r : List UInt8) (hv : h.src.v6 = true) (hv2 : h.dst.v6 = true) (hid : h.id ≤ 1048575) (hn : 0 ≤ n ∧ n ≤ 65535) :
    frontB (headB h n ++ r) = (frontHd h, 40 + n, 0) := by
  have h1 : (addrB h.src).length = 16 := by rw [addrB_length, hv]; rfl
  have h2 : (addrB h.dst).length = 16 := by rw [addrB_length, hv2]; rfl
  obtain ⟨f1, f2, f3⟩ := six_first h.class_ h.id hid
  rw [headB_six h n hv]
  generalize hX : (1610612736 ||| shl32 h.class_.toUInt32 20 ||| h.id) = X at f1 f2 f3
  generalize hb : (putB 4 X.toUInt64 ++ (putB 2 (UInt16.ofInt n).toUInt64 ++ ([h.proto, h.tTL] ++ (addrB h.src ++ addrB h.dst)))) ++ r = b
  have hL : 40 ≤ b.length := by rw [← hb]; simp [h1, h2]; omega
  have e0 : b.getD 0 0 = (shr64 X.toUInt64 24).toUInt8 := by rw [← hb]; rfl
  have e6 : b.getD 6 0 = h.proto := by rw [← hb]; rfl
  have e7 : b.getD 7 0 = h.tTL := by rw [← hb]; rfl
  have t0 : (takeB b 0 4).1 = X.toUInt64 := by
    refine takeB4 _ 0 _ (by omega) ?_ ?_ ?_ ?_ <;> rw [← hb] <;> rfl
  have t4 : (takeB b 4 2).1 = (UInt16.ofInt n).toUInt64 := by
    refine takeB2 _ 4 _ (by omega) ?_ ?_ <;> rw [← hb] <;> rfl
  have a1 : cut4 b 8 24 = addrB h.src := by
    have k := cut4_mid (putB 4 X.toUInt64 ++ (putB 2 (UInt16.ofInt n).toUInt64 ++ [h.proto, h.tTL])) (addrB h.src) (addrB h.dst ++ r) 8 24 rfl (by rw [h1]; rfl)
    rw [← k, ← hb]
    simp only [List.append_assoc]
  have a2 : cut4 b 24 40 = addrB h.dst := by
    have k := cut4_mid (putB 4 X.toUInt64 ++ (putB 2 (UInt16.ofInt n).toUInt64 ++ ([h.proto, h.tTL] ++ addrB h.src))) (addrB h.dst) r 24 40 (by simp [h1]) (by simp [h1, h2])
    rw [← k, ← hb]
    simp only [List.append_assoc]
  unfold frontB
  rw [if_neg (by omega), e0, if_neg (by rw [f1]; decide), if_pos f1, if_neg (by omega)]
  have hh : hd6 b = frontHd h := by
    unfold hd6 frontHd
    rw [t0, a1, a2, addr_six h.src hv, addr_six h.dst hv2, e6, e7]
    have e : X.toUInt64.toUInt32 = X := by simp
    rw [e, f2, f3]
  have hnn : ((takeB b 4 2).1.toUInt16.toNat : Int) = n := by
    rw [t4]
    simp [UInt16.ofInt]
    omega
  rw [hh, hnn]
end Go.Proofs.Ytegcihhhighipaa
