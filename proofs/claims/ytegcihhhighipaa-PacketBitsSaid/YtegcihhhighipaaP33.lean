/- packet -/
import Derived.Test.YtegcihhhighipaaP30
set_option linter.unusedVariables false
set_option linter.unusedSimpArgs false
namespace Go.Proofs.Ytegcihhhighipaa
open Go Go.Gx

theorem read_parts (b : List UInt8) (he : readE b = 0) : (frontB b).2.2 = 0 ∧ ¬ ((frontB b).2.1 < frontN (frontB b).1 ∨ 2048 < (frontB b).2.1) ∧ ¬ (b.length : Int) < (frontB b).2.1 ∧ ((frontB b).1.src.v6 = false → headB (frontB b).1 ((frontB b).2.1 - frontN (frontB b).1) = b.take (frontN (frontB b).1).toNat) ∧ midE (frontB b).1 (restOf b) = 0 := by
  unfold readE at he
  split at he
  · exact absurd he (by assumption)
  · rename_i h0
    split at he
    · exact absurd he (by decide)
    · rename_i h1
      split at he
      · exact absurd he (by decide)
      · rename_i h2
        split at he
        · exact absurd he (by decide)
        · rename_i h3
          exact ⟨Decidable.not_not.1 h0, h1, h2, fun k => Decidable.not_not.1 fun k2 => h3 ⟨k, k2⟩, he⟩
theorem numB_four (x y z u : UInt8) : (numB [x, y, z, u]).toNat = x.toNat * 16777216 + y.toNat * 65536 + z.toNat * 256 + u.toNat := by
  have hx := x.toNat_lt
  have hy := y.toNat_lt
  have hz := z.toNat_lt
  have hu := u.toNat_lt
  simp [numB]
  omega
theorem putB4_numB (x y z u : UInt8) : putB 4 (numB [x, y, z, u]) = [x, y, z, u] := by
  have hx := x.toNat_lt
  have hy := y.toNat_lt
  have hz := z.toNat_lt
  have hu := u.toNat_lt
  have hn := numB_four x y z u
  have e : ∀ v : UInt64, putB 4 v = [(shr64 v 24).toUInt8, (shr64 v 16).toUInt8, (shr64 v 8).toUInt8, (shr64 v 0).toUInt8] := fun v => rfl
  rw [e]
  generalize numB [x, y, z, u] = v at hn ⊢
  simp only [List.cons.injEq, and_true]
  refine ⟨?_, ?_, ?_, ?_⟩
  all_goals
    apply UInt8.toNat_inj.1
    simp [toNat_shr64]
    omega
theorem six_back (x : UInt32) (h : x.toNat / 268435456 = 6) : 1610612736 ||| shl32 (shr32 x 20).toUInt8.toUInt32 20 ||| (x &&& 1048575) = x := by
  have hx := x.toNat_lt
  have hi : (x &&& 1048575).toNat = x.toNat % 1048576 := by
    rw [UInt32.toNat_and]
    have e : (1048575 : UInt32).toNat = 2 ^ 20 - 1 := by decide
    rw [e, Nat.and_two_pow_sub_one_eq_mod]
  have hc : (shr32 x 20).toUInt8.toNat = x.toNat / 1048576 % 256 := by
    simp [shr32]
  have k := congrArg UInt64.toNat (first_eq (shr32 x 20).toUInt8 (x &&& 1048575) (by rw [UInt32.le_iff_toNat_le, hi]; have e : (1048575 : UInt32).toNat = 1048575 := rfl; rw [e]; omega))
  rw [UInt64.toNat_add, UInt64.toNat_add, toNat_shl64, UInt8.toNat_toUInt64, UInt32.toNat_toUInt64, UInt32.toNat_toUInt64, hi, hc] at k
  have e5 : (1610612736 : UInt64).toNat = 1610612736 := by decide
  rw [e5] at k
  apply UInt32.toNat_inj.1
  rw [← k]
  omega
theorem addrB_vec (xs : List UInt8) (h : xs.length = 16) : addrB ⟨true, vecOf 16 xs 0⟩ = xs := by
  unfold addrB
  show List.take 16 (vecOf 16 xs 0).toList = xs
  rw [vecOf_toList h, List.take_of_length_le (by omega)]
theorem front6_inv (b : List UInt8) (hl : 40 ≤ b.length) (h6 : shr8 (b.getD 0 0) 4 = 6) : headB (hd6 b) ((takeB b 4 2).1.toUInt16.toNat : Int) = b.take 40 := by
  have t0 : (takeB b 0 4).1 = numB [b.getD 0 0, b.getD 1 0, b.getD 2 0, b.getD 3 0] := by
    have k := takeB_num b 0 4 (by omega)
    rw [k]
    have e : (b.take ((0 : Int) + (4 : Nat)).toNat).drop (Int.toNat 0) = (b.take (0 + 4)).drop 0 := rfl
    rw [e, four_bytes b 0 (by omega)]
  have t4 : (takeB b 4 2).1 = numB [b.getD 4 0, b.getD 5 0] := takeB_bytes b 4 (by omega)
  have hn := numB_four (b.getD 0 0) (b.getD 1 0) (b.getD 2 0) (b.getD 3 0)
  have h0 : (b.getD 0 0).toNat / 16 = 6 := by
    have k := congrArg UInt8.toNat h6
    have k2 := (b.getD 0 0).toNat_lt
    simp only [shr8, UInt8.toNat_ofNat'] at k
    have e : (6 : UInt8).toNat = 6 := rfl
    rw [e] at k
    omega
  have hb0 := (b.getD 0 0).toNat_lt
  have hb1 := (b.getD 1 0).toNat_lt
  have hb2 := (b.getD 2 0).toNat_lt
  have hb3 := (b.getD 3 0).toNat_lt
  have p0 := putB4_numB (b.getD 0 0) (b.getD 1 0) (b.getD 2 0) (b.getD 3 0)
  have p4 := putB_numB (b.getD 4 0) (b.getD 5 0)
  have hlt4 := numB_two_lt (b.getD 4 0) (b.getD 5 0)
  have htk : b.take 40 = [b.getD 0 0, b.getD 1 0, b.getD 2 0, b.getD 3 0] ++ ([b.getD 4 0, b.getD 5 0] ++ ([b.getD 6 0, b.getD 7 0] ++ (cut4 b 8 24 ++ cut4 b 24 40))) := by
    rw [take_cut b 24 40 (by omega), take_cut b 8 24 (by omega), take_two b 6 (by omega), take_two b 4 (by omega), take_two b 2 (by omega), take_two b 0 (by omega)]
    simp only [List.take_zero, List.nil_append, List.cons_append, List.append_assoc]
  have a1 : addrB (hd6 b).src = cut4 b 8 24 := addrB_vec _ (cut4_length b 8 24 (by omega) (by omega))
  have a2 : addrB (hd6 b).dst = cut4 b 24 40 := addrB_vec _ (cut4_length b 24 40 (by omega) (by omega))
  rw [headB_six (hd6 b) _ rfl, a1, a2, htk]
  have c1 : (hd6 b).class_ = (shr32 (takeB b 0 4).1.toUInt32 20).toUInt8 := rfl
  have c2 : (hd6 b).id = (takeB b 0 4).1.toUInt32 &&& 1048575 := rfl
  have c3 : (hd6 b).proto = b.getD 6 0 := rfl
  have c4 : (hd6 b).tTL = b.getD 7 0 := rfl
  rw [c1, c2, c3, c4, t0, t4]
  generalize numB [b.getD 0 0, b.getD 1 0, b.getD 2 0, b.getD 3 0] = v at hn p0 ⊢
  have hv : v.toUInt32.toNat = v.toNat := by simp; omega
  rw [six_back v.toUInt32 (by rw [hv, hn]; omega)]
  have hv2 : v.toUInt32.toUInt64 = v := by
    apply UInt64.toNat_inj.1
    rw [UInt32.toNat_toUInt64, hv]
  rw [hv2, p0, putB2_int, ofInt_small _ hlt4, p4]
theorem midH_srcs (h : SHeader) (r : List UInt8) : (midH h r).src = h.src ∧ (midH h r).dst = h.dst ∧ (∀ n, headB (midH h r) n = headB h n) := by
  unfold midH
  split
  · exact ⟨rfl, rfl, fun _ => rfl⟩
  · split
    · exact ⟨rfl, rfl, fun _ => rfl⟩
    · exact ⟨rfl, rfl, fun _ => rfl⟩
theorem mid_inv (h : SHeader) (r : List UInt8) (he : midE h r = 0) : restB (midH h r) (midD h r) = r := by
  have hl := midE_len h r he
  have hp := midH_proto h r
  unfold midE at he
  rw [if_neg hl] at he
  unfold restB
  rw [hp]
  by_cases hm : midN h.proto = 0
  · rw [if_pos hm, bodyB_zero _ _ _ (by rw [hp]; exact hm)]
    unfold midD
    rw [hm, List.take_length]
    rfl
  · rw [if_neg hm]
    rw [if_neg hm] at he
    split at he
    · exact absurd he (by decide)
    · rename_i k1
      split at he
      · exact absurd he (by decide)
      · rename_i k2
        have e1 := Decidable.not_not.1 k1
        have e2 := Decidable.not_not.1 k2
        rw [← e2]
        exact e1.symm
/-- Read, and made again: the same bytes. -/
theorem make_read (b : List UInt8) (he : readE b = 0) : makeB (readH b) (readD b) = b.take (readN b).toNat := by
  obtain ⟨h0, h1, h2, h3, hm⟩ := read_parts b he
  have hfc := frontN_cases (frontB b).1
  have hN : readN b = (frontB b).2.1 := by unfold readN; rw [if_pos he]
  have hH : readH b = midH (frontB b).1 (restOf b) := by unfold readH; rw [if_pos he]
  have hD : readD b = midD (frontB b).1 (restOf b) := rfl
  have hrl : ((restOf b).length : Int) = (frontB b).2.1 - frontN (frontB b).1 := by unfold restOf; simp; omega
  have hr := mid_inv (frontB b).1 (restOf b) hm
  rw [hN, hH, hD]
  unfold makeB
  rw [hr, (midH_srcs _ _).2.2, hrl]
  have hhead : headB (frontB b).1 ((frontB b).2.1 - frontN (frontB b).1) = b.take (frontN (frontB b).1).toNat := by
    rcases frontB_cases b h0 with ⟨e, hl, h6⟩ | ⟨e, _, _, _⟩
    · have hv : (frontB b).1.src.v6 = true := by rw [e]; rfl
      have hf : frontN (frontB b).1 = 40 := by unfold frontN; rw [hv]; rfl
      rw [hf, e]
      show headB (hd6 b) (40 + ((takeB b 4 2).1.toUInt16.toNat : Int) - 40) = b.take 40
      have e2 : (40 : Int) + ((takeB b 4 2).1.toUInt16.toNat : Int) - 40 = ((takeB b 4 2).1.toUInt16.toNat : Int) := by omega
      rw [e2]
      exact front6_inv b hl h6
    · exact h3 (by rw [e]; rfl)
  rw [hhead]
  unfold restOf
  have e : b.take (frontN (frontB b).1).toNat = (b.take (frontB b).2.1.toNat).take (frontN (frontB b).1).toNat := by
    rw [List.take_take]
    congr 1
    omega
  rw [e, List.take_append_drop]
/-- The bytes' sum, as a number. -/
def wsum : Bool → List UInt8 → Nat
  | _, [] => 0
  | p, x :: l => x.toNat * 2 ^ sh p + wsum (!p) l
theorem sh_cases (p : Bool) : 2 ^ sh p = 256 ∨ 2 ^ sh p = 1 := by cases p <;> simp [sh]
theorem wsum_le (l : List UInt8) : ∀ p, wsum p l ≤ 65280 * l.length := by
  induction l with
  | nil => intro p; simp [wsum]
  | cons x l ih =>
    intro p
    have h1 := ih (!p)
    have h2 := x.toNat_lt
    simp only [wsum, List.length_cons]
    rcases sh_cases p with e | e <;> rw [e] <;> omega
theorem sumGo_wsum (l : List UInt8) : ∀ (p : Bool) (n : UInt64), n.toNat + wsum p l < 18446744073709551616 → (sumGo p l n).toNat = n.toNat + wsum p l := by
  induction l with
  | nil => intro p n _; simp [sumGo, wsum]
  | cons x l ih =>
    intro p n h
    have h2 := x.toNat_lt
    simp only [wsum] at h ⊢
    have e : (n + shl64 x.toUInt64 (sh p)).toNat = n.toNat + x.toNat * 2 ^ sh p := by
      rw [UInt64.toNat_add, toNat_shl64, UInt8.toNat_toUInt64]
      rcases sh_cases p with e | e <;> rw [e] at h ⊢ <;> omega
    show (sumGo (!p) l (n + shl64 x.toUInt64 (sh p))).toNat = _
    rw [ih (!p) _ (by rw [e]; omega), e]
    omega
theorem sumB_wsum (l : List UInt8) (h : l.length ≤ 100000) : sumB l = UInt16.ofNat (65535 - foldN (wsum true l)) := by
  have h1 := wsum_le l true
  unfold sumB
  rw [sumGo_wsum l true 0 (by simp; omega)]
  simp
/-- Which half of a number comes behind so many bytes. -/
def flp (n : Nat) (p : Bool) : Bool := if n % 2 = 0 then p else !p
theorem flp_succ (n : Nat) (p : Bool) : flp (n + 1) p = flp n (!p) := by
  unfold flp
  by_cases h : n % 2 = 0
  · rw [if_pos h, if_neg (by omega)]
  · rw [if_neg h, if_pos (by omega), Bool.not_not]
theorem wsum_append (a b : List UInt8) : ∀ p, wsum p (a ++ b) = wsum p a + wsum (flp a.length p) b := by
  induction a with
  | nil => intro p; simp [wsum, flp]
  | cons x a ih =>
    intro p
    simp only [List.cons_append, wsum, List.length_cons]
    rw [ih, flp_succ]
    omega
theorem wsum_set (l : List UInt8) (y : UInt8) : ∀ (p : Bool) (i : Nat), i < l.length → wsum p (l.set i y) + (l.getD i 0).toNat * 2 ^ sh (flp i p) = wsum p l + y.toNat * 2 ^ sh (flp i p) := by
  induction l with
  | nil => intro p i h; simp at h
  | cons x l ih =>
    intro p i h
    cases i with
    | zero =>
      simp only [List.set_cons_zero, wsum, List.getD_cons_zero]
      have e : flp 0 p = p := rfl
      rw [e]
      omega
    | succ i =>
      have k := ih (!p) i (by simpa using h)
      simp only [List.set_cons_succ, wsum, List.getD_cons_succ]
      rw [flp_succ]
      omega
theorem flip_all : ∀ x : Fin 256, ∀ k : Fin 8, x.val + 2 ^ (7 - k.val) = (UInt8.ofNat x.val ^^^ shr8 128 k.val).toNat ∨ (UInt8.ofNat x.val ^^^ shr8 128 k.val).toNat + 2 ^ (7 - k.val) = x.val := by decide +kernel
theorem flip_one (x : UInt8) (k : Nat) (hk : k < 8) : x.toNat + 2 ^ (7 - k) = (x ^^^ shr8 128 k).toNat ∨ (x ^^^ shr8 128 k).toNat + 2 ^ (7 - k) = x.toNat := by
  have h := flip_all ⟨x.toNat, x.toNat_lt⟩ ⟨k, hk⟩
  have e : UInt8.ofNat x.toNat = x := by simp
  simp only [e] at h
  exact h
theorem flip_ne (x : UInt8) (k : Nat) (hk : k < 8) : x ^^^ shr8 128 k ≠ x := fun e => by
  have h := flip_one x k hk
  rw [e] at h
  have : 0 < 2 ^ (7 - k) := Nat.pow_pos (by decide)
  omega
theorem flip_bad (pre r : List UInt8) (i k : Nat) (hi : i < r.length) (hk : k < 8) (h1 : wsum true (pre ++ r) % 65535 = 0) : wsum true (pre ++ r.set i (r.getD i 0 ^^^ shr8 128 k)) % 65535 ≠ 0 := fun h2 => by
  rw [wsum_append] at h1 h2
  have h3 := wsum_set r (r.getD i 0 ^^^ shr8 128 k) (flp pre.length true) i hi
  have h4 := flip_one (r.getD i 0) k hk
  have hD1 : 0 < 2 ^ (7 - k) := Nat.pow_pos (by decide)
  have hD2 : 2 ^ (7 - k) ≤ 2 ^ 7 := Nat.pow_le_pow_right (by decide) (by omega)
  generalize 2 ^ (7 - k) = D at h4 hD1 hD2
  generalize (r.getD i 0 ^^^ shr8 128 k).toNat = y at h3 h4
  rcases sh_cases (flp i (flp pre.length true)) with e | e <;> rw [e] at h3 <;> rcases h4 with h4 | h4 <;> omega
theorem fold_mod (m : Nat) : foldN m ≤ 65535 ∧ (m + (65535 - foldN m)) % 65535 = 0 := by
  have h := foldN_le m
  refine ⟨h, ?_⟩
  unfold foldN at h ⊢
  split at h <;> rename_i h0
  · rw [if_pos h0]
    omega
  · rw [if_neg h0]
    omega
/-- What is summed ahead of what stands behind the front. -/
def preB (h : SHeader) (n : Int) : List UInt8 := addrB h.src ++ addrB h.dst ++ pseudoB h n
theorem preB_even (h : SHeader) (n : Int) : (preB h n).length % 2 = 0 ∧ (preB h n).length ≤ 40 := by
  unfold preB pseudoB
  simp only [List.length_append, addrB_length]
  cases h.src.v6 <;> cases h.dst.v6 <;> simp
theorem body_split (h : SHeader) (d : List UInt8) (hm : midN h.proto ≠ 0) : ∃ P R : List UInt8, P.length % 2 = 0 ∧ ∀ s, bodyB h d s = P ++ (putB 2 s.toUInt64 ++ R) := by
  rcases midN_cases h.proto with e | ⟨e, _⟩ | ⟨e, _⟩
  · exact absurd e hm
  · refine ⟨putB 2 h.srcPort.toUInt64 ++ (putB 2 h.dstPort.toUInt64 ++ (putB 4 h.seq.toUInt64 ++ [0, 0, 0, 0, 80, h.flags, 255, 255])), [0, 0] ++ d, by simp, fun s => ?_⟩
    unfold bodyB
    rw [if_pos e]
    simp only [List.append_assoc]
  · refine ⟨putB 2 h.srcPort.toUInt64 ++ (putB 2 h.dstPort.toUInt64 ++ putB 2 (UInt16.ofInt (8 + (d.length : Int))).toUInt64), d, by simp, fun s => ?_⟩
    unfold bodyB
    rw [if_neg (by rw [e]; decide), if_pos e]
    simp only [List.append_assoc]
theorem body_wsum (h : SHeader) (d : List UInt8) (s : UInt16) (hm : midN h.proto ≠ 0) : wsum true (bodyB h d s) = wsum true (bodyB h d 0) + s.toNat := by
  obtain ⟨P, R, hP, hs⟩ := body_split h d hm
  have hf : flp P.length true = true := by unfold flp; rw [if_pos hP]
  have h2 : ∀ t : UInt16, wsum true (putB 2 t.toUInt64 ++ R) = t.toNat + wsum true R := fun t => by
    have ht := t.toNat_lt
    rw [lay_two]
    show wsum true ((shr16 t 8).toUInt8 :: (t.toUInt8 :: R)) = _
    simp only [wsum, Bool.not_true, Bool.not_false, sh]
    simp [shr16]
    omega
  rw [hs s, hs 0, wsum_append P, wsum_append P, hf, h2, h2]
  have e : (0 : UInt16).toNat = 0 := rfl
  rw [e]
  omega
theorem sum_valid (h : SHeader) (d : List UInt8) (hm : midN h.proto ≠ 0) (hl : d.length ≤ 4096) : wsum true (preB h (restB h d).length ++ restB h d) % 65535 = 0 := by
  have hb0 := bodyB_length h d 0
  have hrl := restB_length h d
  have hmc := midN_cases h.proto
  have hrest : restB h d = bodyB h d (sumH h (bodyB h d 0)) := by
    rw [restB_eq]
    unfold restS
    rw [if_neg hm]
  have hlen : ((restB h d).length : Int) = ((bodyB h d 0).length : Int) := by omega
  rw [hlen, hrest]
  obtain ⟨hpe, hpl⟩ := preB_even h (bodyB h d 0).length
  have hf : flp (preB h (bodyB h d 0).length).length true = true := by unfold flp; rw [if_pos hpe]
  rw [wsum_append, hf, body_wsum h d _ hm]
  have hT : wsum true (preB h (bodyB h d 0).length) + wsum true (bodyB h d 0) = wsum true (preB h (bodyB h d 0).length ++ bodyB h d 0) := by rw [wsum_append, hf]
  have hsum : sumB (addrB h.src ++ addrB h.dst ++ pseudoB h (bodyB h d 0).length ++ bodyB h d 0) = UInt16.ofNat (65535 - foldN (wsum true (preB h (bodyB h d 0).length ++ bodyB h d 0))) := sumB_wsum (preB h (bodyB h d 0).length ++ bodyB h d 0) (by rw [List.length_append]; omega)
  obtain ⟨k1, k2⟩ := fold_mod (wsum true (preB h (bodyB h d 0).length ++ bodyB h d 0))
  unfold sumH
  rw [hsum]
  generalize wsum true (preB h (bodyB h d 0).length ++ bodyB h d 0) = m at hT k1 k2 ⊢
  have hv : (UInt16.ofNat (65535 - foldN m)).toNat = 65535 - foldN m := by
    rw [UInt16.toNat_ofNat']
    exact Nat.mod_eq_of_lt (by simp; omega)
  split
  · rename_i hz
    have hz0 := congrArg UInt16.toNat hz.1
    rw [hv] at hz0
    have e0 : (0 : UInt16).toNat = 0 := rfl
    have e1 : (65535 : UInt16).toNat = 65535 := rfl
    rw [e0] at hz0
    rw [e1]
    omega
  · rw [hv]
    omega
theorem same_eq (a b : SHeader) (x y : List UInt8) (h : sameB a b x y = true) : x = y ∧ wD a nilSl = wD b nilSl := by
  unfold sameB at h
  obtain ⟨h0, h1, h2, h3, h4, h5, h6, h7, h8, h9, h10⟩ := of_decide_eq_true h
  refine ⟨h0, ?_⟩
  unfold wD
  rw [h1, h2, h3, h4, h5, h6, h7, h8, h9, h10]
/-- One bit turned is told. -/
theorem bits_law (h : SHeader) (d : List UInt8) (hc : checkH h d.length = 0) (i k : Nat) (hi : i < (makeB h d).length) (hk : k < 8) (o p : OV)
    (he : readE ((makeB h d).set i ((makeB h d).getD i 0 ^^^ shr8 128 k)) = 0) :
    sameB (wD (readH ((makeB h d).set i ((makeB h d).getD i 0 ^^^ shr8 128 k))) o) (wD h p) (readU ((makeB h d).set i ((makeB h d).getD i 0 ^^^ shr8 128 k))) d = false ∧ ¬ (midN h.proto ≠ 0 ∧ frontN h ≤ i) := by
  constructor
  · rw [Bool.eq_false_iff]
    intro hs
    generalize hb : (makeB h d).set i ((makeB h d).getD i 0 ^^^ shr8 128 k) = b at he hs
    obtain ⟨e1, e2⟩ := same_eq _ _ _ _ hs
    have hm := make_read b he
    have hD : readD b = d := by
      have : readU b = readD b := by unfold readU; rw [if_pos he]
      rw [← this]
      exact e1
    have hM : makeB (readH b) d = makeB h d := by
      have k1 : makeB (wD (readH b) nilSl) d = makeB (wD h nilSl) d := congrArg (fun z => makeB z d) e2
      exact k1
    rw [hD, hM] at hm
    have hbl : b.length = (makeB h d).length := by rw [← hb]; simp
    have hlen := congrArg List.length hm
    rw [List.length_take] at hlen
    have hbt : b.take (readN b).toNat = b := List.take_of_length_le (by omega)
    rw [hbt] at hm
    have k3 : b.getD i 0 = (makeB h d).getD i 0 ^^^ shr8 128 k := by rw [← hb]; simp [List.getD, hi]
    rw [← hm] at k3
    exact flip_ne _ k hk k3.symm
  · rintro ⟨hm, hf⟩
    have hp := check_parts h _ hc
    have hlen := makeB_length h d _ hc
    have hrl := restB_length h d
    have hhl := headB_length h (restB h d).length hp.2.2.1
    have hfc := frontN_cases h
    have hmc := midN_cases h.proto
    have hj : ∃ j : Nat, i = (headB h (restB h d).length).length + j ∧ j < (restB h d).length := ⟨i - (headB h (restB h d).length).length, by omega, by omega⟩
    obtain ⟨j, rfl, hj2⟩ := hj
    have hg : (makeB h d).getD ((headB h (restB h d).length).length + j) 0 = (restB h d).getD j 0 := by
      unfold makeB
      simp only [List.getD_eq_getElem?_getD]
      have e : (headB h (restB h d).length).length + j - (headB h (restB h d).length).length = j := by omega
      rw [List.getElem?_append_right (by omega), e]
    have hset : (makeB h d).set ((headB h (restB h d).length).length + j) ((makeB h d).getD ((headB h (restB h d).length).length + j) 0 ^^^ shr8 128 k) = headB h (restB h d).length ++ (restB h d).set j ((restB h d).getD j 0 ^^^ shr8 128 k) := by
      rw [hg]
      unfold makeB
      have e : (headB h (restB h d).length).length + j - (headB h (restB h d).length).length = j := by omega
      rw [List.set_append_right _ _ (by omega), e]
    rw [hset] at he
    generalize hr : (restB h d).set j ((restB h d).getD j 0 ^^^ shr8 128 k) = r at he
    have hrlen : r.length = (restB h d).length := by rw [← hr]; simp
    have hF : frontB (headB h (restB h d).length ++ r) = (frontHd h, frontN h + (restB h d).length, 0) := front_head h _ _ _ hc (by omega)
    have hfn : frontN (frontHd h) = frontN h := rfl
    have hR : restOf (headB h (restB h d).length ++ r) = r := by
      unfold restOf
      rw [hF]
      show ((headB h (restB h d).length ++ r).take (frontN h + (restB h d).length).toNat).drop (frontN (frontHd h)).toNat = _
      have e1 : (frontN h + (restB h d).length).toNat = (headB h (restB h d).length ++ r).length := by rw [List.length_append]; omega
      have e2 : (frontN (frontHd h)).toNat = (headB h (restB h d).length).length := by rw [hfn]; omega
      rw [e1, List.take_length, e2, List.drop_left]
    obtain ⟨_, _, _, _, hE⟩ := read_parts _ he
    rw [hR, hF] at hE
    have hE2 : midE (frontHd h) r = 0 := hE
    have hinv := mid_inv (frontHd h) r hE2
    have hsrc := midH_srcs (frontHd h) r
    have hpr := midH_proto (frontHd h) r
    have hpp : (frontHd h).proto = h.proto := rfl
    have hml := midE_len _ _ hE2
    have hdl := midD_length (frontHd h) r hml
    rw [hpp] at hdl hpr
    have v1 := sum_valid h d hm (by have := checkH_len h d.length hc; omega)
    have v2 := sum_valid (midH (frontHd h) r) (midD (frontHd h) r) (by rw [hpr]; exact hm) (by have := checkH_len h d.length hc; omega)
    rw [hinv, hrlen] at v2
    have hpre : preB (midH (frontHd h) r) (restB h d).length = preB h (restB h d).length := by
      unfold preB pseudoB
      rw [hsrc.1, hsrc.2.1, hpr]
      rfl
    rw [hpre, ← hr] at v2
    exact flip_bad _ _ j k hj2 hk v1 v2
/-- A bit turned twice. -/
theorem bit_back (b : List UInt8) (i : Nat) (m : UInt8) (hi : i < b.length) : (b.set i (b.getD i u8E.zero ^^^ m)).set i ((b.set i (b.getD i u8E.zero ^^^ m)).getD i u8E.zero ^^^ m) = b := by
  have e : (b.set i (b.getD i u8E.zero ^^^ m)).getD i u8E.zero = b.getD i u8E.zero ^^^ m := by simp [List.getD, hi]
  rw [e, List.set_set, UInt8.xor_assoc, UInt8.xor_self, UInt8.xor_zero]
  have e2 : b.getD i u8E.zero = b[i] := by simp [List.getD, hi]
  rw [e2]
  exact List.set_getElem_self hi
end Go.Proofs.Ytegcihhhighipaa
