/- packet -/
import Derived.Test.YtegcihhhighipaaP18
set_option linter.unusedVariables false
set_option linter.unusedSimpArgs false
namespace Go.Proofs.Ytegcihhhighipaa
open Go Go.Gx

theorem frontB_cases (b : List UInt8) (he : (frontB b).2.2 = 0) :
    (frontB b = (hd6 b, 40 + ((takeB b 4 2).1.toUInt16.toNat : Int), 0) ∧ 40 ≤ b.length ∧ shr8 (b.getD 0 0) 4 = 6) ∨
    (frontB b = (hd4 b, ((takeB b 2 2).1.toUInt16.toNat : Int), 0) ∧ 20 ≤ b.length ∧ b.getD 0 0 = 69 ∧ (takeB b 6 2).1.toUInt16 = 16384) := by
  unfold frontB at he ⊢
  split at he
  · exact absurd he (by decide)
  · rename_i h0
    rw [if_neg h0]
    split at he
    · rename_i h1
      rw [if_pos h1]
      split at he
      · exact absurd he (by decide)
      · rename_i h2
        rw [if_neg h2]
        split at he
        · exact absurd he (by decide)
        · rename_i h3
          rw [if_neg h3]
          refine .inr ⟨rfl, by omega, ?_, ?_⟩
          · exact Decidable.not_not.1 fun k => h3 (.inl k)
          · exact Decidable.not_not.1 fun k => h3 (.inr k)
    · rename_i h1
      rw [if_neg h1]
      split at he
      · rename_i h2
        rw [if_pos h2]
        split at he
        · exact absurd he (by decide)
        · rename_i h3
          rw [if_neg h3]
          exact .inl ⟨rfl, by omega, h2⟩
      · exact absurd he (by decide)
theorem putB_numB (x y : UInt8) : putB 2 (numB [x, y]) = [x, y] := by
  have hx := x.toNat_lt
  have hy := y.toNat_lt
  rw [putB_two, numB_two]
  simp only [List.cons.injEq, and_true]
  constructor
  · apply UInt8.toNat_inj.1
    simp [toNat_shr64]
    omega
  · apply UInt8.toNat_inj.1
    simp [toNat_shr64]
theorem numB_putB (s : UInt16) : numB (putB 2 s.toUInt64) = s.toUInt64 := by
  have hs := s.toNat_lt
  rw [putB_two, numB_two]
  apply UInt64.toNat_inj.1
  simp [toNat_shr64]
  omega
theorem take_two (b : List UInt8) (p : Nat) (h : p + 2 ≤ b.length) : b.take (p + 2) = b.take p ++ [b.getD p 0, b.getD (p + 1) 0] := by
  rw [← two_bytes b p h]
  have e : b.take p = (b.take (p + 2)).take p := by rw [List.take_take]; congr 1; omega
  rw [e, List.take_append_drop]
theorem take_cut (b : List UInt8) (p q : Nat) (h : p ≤ q) : b.take q = b.take p ++ cut4 b p q := by
  unfold cut4
  have e : b.take p = (b.take q).take p := by rw [List.take_take]; congr 1; omega
  rw [e, List.take_append_drop]
theorem addrB_four (b : List UInt8) (p : Nat) (h : p + 4 ≤ b.length) : addrB ⟨false, cpyV (Vector.replicate 16 0) (cut4 b p (p + 4)) 0⟩ = cut4 b p (p + 4) := by
  have hl : (cut4 b p (p + 4)).length = 4 := by unfold cut4; simp; omega
  unfold addrB
  show List.take 4 (cpyV (Vector.replicate 16 0) (cut4 b p (p + 4)) 0).toList = _
  rw [cpyV_toList (by omega), List.take_append_of_le_length (by omega), List.take_of_length_le (by omega)]
theorem ofInt_small (x : UInt64) (h : x.toNat < 65536) : UInt64.ofInt (x.toUInt16.toNat : Int) = x := by
  rw [ofInt16]
  apply UInt64.toNat_inj.1
  simp
  omega
theorem takeB_bytes (b : List UInt8) (p : Nat) (h : p + 2 ≤ b.length) : (takeB b p 2).1 = numB [b.getD p 0, b.getD (p + 1) 0] := by
  rw [takeB_num b p 2 (by omega)]
  have e : (b.take ((p : Int) + (2 : Nat)).toNat).drop (p : Int).toNat = (b.take (p + 2)).drop p := by
    have e1 : ((p : Int) + (2 : Nat)).toNat = p + 2 := by omega
    rw [e1, Int.toNat_natCast]
  rw [e, two_bytes b p h]
theorem numB_two_lt (x y : UInt8) : (numB [x, y]).toNat < 65536 := by
  have hx := x.toNat_lt
  have hy := y.toNat_lt
  rw [numB_two]
  simp
  omega
theorem take20 (b : List UInt8) (h : 20 ≤ b.length) (h0 : b.getD 0 0 = 69) (h6 : (takeB b 6 2).1.toUInt16 = 16384) :
    b.take 20 = fourB (hd4 b) ((takeB b 2 2).1.toUInt16.toNat : Int) (numB [b.getD 10 0, b.getD 11 0]).toUInt16 := by
  obtain ⟨h7, h8⟩ := (part_eq b h).1 h6
  have e2 : (takeB b 2 2).1 = numB [b.getD 2 0, b.getD 3 0] := takeB_bytes b 2 (by omega)
  have e4 : (takeB b 4 2).1 = numB [b.getD 4 0, b.getD 5 0] := takeB_bytes b 4 (by omega)
  rw [take_cut b 16 20 (by omega), take_cut b 12 16 (by omega), take_two b 10 (by omega), take_two b 8 (by omega), take_two b 6 (by omega), take_two b 4 (by omega), take_two b 2 (by omega), take_two b 0 (by omega)]
  unfold fourB
  have a1 : addrB (hd4 b).src = cut4 b 12 16 := addrB_four b 12 (by omega)
  have a2 : addrB (hd4 b).dst = cut4 b 16 20 := addrB_four b 16 (by omega)
  have i1 : (hd4 b).id.toUInt64 = numB [b.getD 4 0, b.getD 5 0] := by
    show (takeB b 4 2).1.toUInt16.toUInt32.toUInt64 = _
    rw [e4]
    have := numB_two_lt (b.getD 4 0) (b.getD 5 0)
    generalize numB [b.getD 4 0, b.getD 5 0] = z at this ⊢
    apply UInt64.toNat_inj.1
    simp
    omega
  rw [a1, a2, i1, e2, ofInt_small _ (numB_two_lt _ _), putB_numB, putB_numB, putB2_cut, putB_numB, h0, h7, h8]
  simp only [List.take_zero, List.nil_append, List.cons_append, List.append_assoc]
  rfl
theorem fourB_inj (h : SHeader) (n : Int) (s s2 : UInt16) : fourB h n s = fourB h n s2 ↔ s = s2 := by
  constructor
  · intro e
    have e2 : ∀ t, ((fourB h n t).take 12).drop 10 = putB 2 t.toUInt64 := fun t => by
      unfold fourB
      rw [lay_two, putB_two, putB_two]
      rfl
    have e3 := congrArg (fun l => numB ((l.take 12).drop 10)) e
    simp only [e2, numB_putB] at e3
    apply UInt16.toNat_inj.1
    have := congrArg UInt64.toNat e3
    simpa using this
  · rintro rfl; rfl
theorem front_sum (b : List UInt8) (he : (frontB b).2.2 = 0) (hv : (frontB b).1.src.v6 = false) :
    headB (frontB b).1 ((frontB b).2.1 - frontN (frontB b).1) = b.take (frontN (frontB b).1).toNat ↔ ((numB ((b.take (10 + 2 : Int).toNat).drop (Int.toNat 10))).toNat : Int) = (sumB (fourB (frontB b).1 (frontB b).2.1 0)).toNat := by
  rcases frontB_cases b he with ⟨e, _, _⟩ | ⟨e, hl, h0, h6⟩
  · rw [e] at hv
    have k : true = false := hv
    cases k
  · have hf : frontN (frontB b).1 = 20 := by unfold frontN; rw [hv]; rfl
    rw [hf, headB_four _ _ hv]
    have e1 : (20 : Int) + ((frontB b).2.1 - 20) = (frontB b).2.1 := by omega
    rw [e1]
    rw [e]
    show fourB (hd4 b) _ _ = b.take 20 ↔ _
    rw [take20 b hl h0 h6, fourB_inj]
    have e3 : (b.take (10 + 2 : Int).toNat).drop (Int.toNat 10) = [b.getD 10 0, b.getD 11 0] := two_bytes b 10 (by omega)
    rw [e3]
    have hs := numB_two_lt (b.getD 10 0) (b.getD 11 0)
    generalize numB [b.getD 10 0, b.getD 11 0] = z at hs ⊢
    constructor
    · intro k
      rw [k]
      simp
      omega
    · intro k
      apply UInt16.toNat_inj.1
      simp at k ⊢
      omega
theorem n16 (b : List UInt8) (p : Int) (h : 0 ≤ p ∧ p + 2 ≤ b.length) : UInt16.ofInt ((numB ((b.take (p + 2).toNat).drop p.toNat)).toNat : Int) = (takeB b p 2).1.toUInt16 := by
  have t : (takeB b p 2).1 = numB ((b.take (p + 2).toNat).drop p.toNat) := takeB_num b p 2 h
  rw [t]
  apply UInt16.toNat_inj.1
  simp [UInt16.ofInt]
  omega
theorem n32 (b : List UInt8) (p : Int) (h : 0 ≤ p ∧ p + 4 ≤ b.length) : UInt32.ofInt ((numB ((b.take (p + 4).toNat).drop p.toNat)).toNat : Int) = (takeB b p 4).1.toUInt32 := by
  have t : (takeB b p 4).1 = numB ((b.take (p + 4).toNat).drop p.toNat) := takeB_num b p 4 h
  rw [t]
  apply UInt32.toNat_inj.1
  simp [UInt32.ofInt]
  omega
theorem midE_ref (h : SHeader) (r : List UInt8) (hl : ¬ (r.length : Int) < midN h.proto) (hm : ¬ midN h.proto = 0) :
    midE h r = if r ≠ bodyB (midH h r) (midD h r) (midS h r) then 161 else if midS h r ≠ sumH (midH h r) (bodyB (midH h r) (midD h r) 0) then 162 else 0 := by
  unfold midE
  have e : layB (bodyB (midH h r) (midD h r) 0) (atN h.proto) (midS h r) = bodyB (midH h r) (midD h r) (midS h r) := by
    have := layB_body (midH h r) (midD h r) 0 (midS h r) (by rw [midH_proto]; exact hm)
    rwa [midH_proto] at this
  rw [if_neg hl, if_neg hm, e]
theorem rbody_own (h : SHeader) (d : List UInt8) (s : UInt16) (w : World) (hd : IsSl u8E w h.data.v d) (hl : d.length ≤ 1000000) (hm : ¬ midN h.proto = 0) : Calls Try.prog 41 #[eHeader.val h, U16 s] w (RetO w u8E (bodyB h d s) 5) := by
  refine (rbody_ok h d s w hd hl).mono ?_
  rintro e w' ⟨o, _, rfl, hk, hn⟩
  have hn2 : News w w' [OwnS o.v u8E (bodyB h d s) 5] := by simpa only [if_neg hm] using hn
  exact ⟨_, rfl, hk, trivial, hn2⟩
end Go.Proofs.Ytegcihhhighipaa
