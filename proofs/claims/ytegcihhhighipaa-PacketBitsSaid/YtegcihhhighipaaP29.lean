/- packet -/
import Derived.Test.YtegcihhhighipaaP28
set_option linter.unusedVariables false
set_option linter.unusedSimpArgs false
namespace Go.Proofs.Ytegcihhhighipaa
open Go Go.Gx

theorem check_parts (h : SHeader) (n : Int) (hc : checkH h n = 0) : checkA h.src = 0 ∧ checkA h.dst = 0 ∧ h.src.v6 = h.dst.v6 ∧ h.id ≤ (bif h.src.v6 then 1048575 else 65535) ∧ (midN h.proto = 0 → h.srcPort = 0 ∧ h.dstPort = 0) ∧ (h.proto ≠ 6 → h.flags = 0 ∧ h.seq = 0) ∧ frontN h + midN h.proto + n ≤ 2048 := by
  unfold checkH at hc
  split at hc
  · exact absurd hc (by decide)
  · rename_i hA
    split at hc
    · exact absurd hc (by decide)
    · rename_i hB
      split at hc
      · exact absurd hc (by decide)
      · rename_i hC
        refine ⟨?_, ?_, ?_, ?_, ?_, ?_, by omega⟩
        · exact Decidable.not_not.1 fun k => hA (.inl k)
        · exact Decidable.not_not.1 fun k => hA (.inr (.inl k))
        · exact Decidable.not_not.1 fun k => hA (.inr (.inr (.inl k)))
        · exact UInt32.not_lt.1 fun k => hA (.inr (.inr (.inr k)))
        · intro k
          exact ⟨Decidable.not_not.1 fun k2 => hB (.inl ⟨k, .inl k2⟩), Decidable.not_not.1 fun k2 => hB (.inl ⟨k, .inr k2⟩)⟩
        · intro k
          exact ⟨Decidable.not_not.1 fun k2 => hB (.inr ⟨k, .inl k2⟩), Decidable.not_not.1 fun k2 => hB (.inr ⟨k, .inr k2⟩)⟩
theorem headB_length (h : SHeader) (n : Int) (hv : h.src.v6 = h.dst.v6) : ((headB h n).length : Int) = frontN h := by
  cases h6 : h.src.v6 with
  | true =>
    have h1 : (addrB h.src).length = 16 := by rw [addrB_length, h6]; rfl
    have h2 : (addrB h.dst).length = 16 := by rw [addrB_length, ← hv, h6]; rfl
    rw [headB_six h n h6]
    unfold frontN
    rw [h6]
    simp [h1, h2]
  | false =>
    rw [headB_four h n h6, fourB_length _ _ _ h6 (by rw [← hv]; exact h6)]
    unfold frontN
    rw [h6]
    rfl
theorem front_head (h : SHeader) (n m : Int) (r : List UInt8) (hc : checkH h m = 0) (hn : 0 ≤ n ∧ n ≤ 4096) : frontB (headB h n ++ r) = (frontHd h, frontN h + n, 0) := by
  obtain ⟨h1, h2, h3, h4, _⟩ := check_parts h m hc
  cases h6 : h.src.v6 with
  | true =>
    rw [h6] at h4
    rw [front6_make h n r h6 (by rw [← h3]; exact h6) h4 (by omega)]
    unfold frontN
    rw [h6]
    rfl
  | false =>
    rw [h6] at h4
    rw [headB_four h n h6, front4_make h (20 + n) _ r h6 (by rw [← h3]; exact h6) h1 h2 h4 (by omega)]
    unfold frontN
    rw [h6]
    rfl
theorem mid_make (h : SHeader) (d : List UInt8) (s : UInt16) (m : Int) (hc : checkH h m = 0) : midH (frontHd h) (bodyB h d s) = wD h nilSl ∧ midD (frontHd h) (bodyB h d s) = d ∧ (midN h.proto ≠ 0 → midS (frontHd h) (bodyB h d s) = s) := by
  obtain ⟨_, _, _, _, h5, h6, _⟩ := check_parts h m hc
  obtain ⟨a1, a2, p, sp, dp, t, c, i, f, q, o⟩ := h
  have hp : (frontHd ⟨a1, a2, p, sp, dp, t, c, i, f, q, o⟩).proto = p := rfl
  by_cases e6 : p = 6
  · subst e6
    have hm : ¬ midN 6 = 0 := by decide
    have e : bodyB ⟨a1, a2, 6, sp, dp, t, c, i, f, q, o⟩ d s = putB 2 sp.toUInt64 ++ (putB 2 dp.toUInt64 ++ (putB 4 q.toUInt64 ++ ([0, 0, 0, 0, 80, f, 255, 255] ++ (putB 2 s.toUInt64 ++ ([0, 0] ++ d))))) := by
      unfold bodyB
      rw [if_pos rfl]
      simp only [List.append_assoc]
    have hl : 20 ≤ (bodyB ⟨a1, a2, 6, sp, dp, t, c, i, f, q, o⟩ d s).length := by rw [e]; simp; omega
    have k0 : (takeB (bodyB ⟨a1, a2, 6, sp, dp, t, c, i, f, q, o⟩ d s) 0 2).1 = sp.toUInt64 := by refine takeB2 _ 0 _ (by omega) ?_ ?_ <;> rw [e] <;> rfl
    have k2 : (takeB (bodyB ⟨a1, a2, 6, sp, dp, t, c, i, f, q, o⟩ d s) 2 2).1 = dp.toUInt64 := by refine takeB2 _ 2 _ (by omega) ?_ ?_ <;> rw [e] <;> rfl
    have k4 : (takeB (bodyB ⟨a1, a2, 6, sp, dp, t, c, i, f, q, o⟩ d s) 4 4).1 = q.toUInt64 := by refine takeB4 _ 4 _ (by omega) ?_ ?_ ?_ ?_ <;> rw [e] <;> rfl
    have k16 : (takeB (bodyB ⟨a1, a2, 6, sp, dp, t, c, i, f, q, o⟩ d s) 16 2).1 = s.toUInt64 := by refine takeB2 _ 16 _ (by omega) ?_ ?_ <;> rw [e] <;> rfl
    have k13 : (bodyB ⟨a1, a2, 6, sp, dp, t, c, i, f, q, o⟩ d s).getD 13 0 = f := by rw [e]; rfl
    refine ⟨?_, ?_, fun _ => ?_⟩
    · unfold midH
      rw [hp, if_neg hm, if_pos rfl, k0, k2, k4, k13]
      have x1 : sp.toUInt64.toUInt16 = sp := by simp
      have x2 : dp.toUInt64.toUInt16 = dp := by simp
      have x3 : q.toUInt64.toUInt32 = q := by simp
      rw [x1, x2, x3]
      rfl
    · unfold midD
      rw [hp, List.take_length, e]
      rfl
    · unfold midS
      rw [hp]
      show (takeB (bodyB ⟨a1, a2, 6, sp, dp, t, c, i, f, q, o⟩ d s) 16 2).1.toUInt16 = s
      rw [k16]
      simp
  · have hz : f = 0 ∧ q = 0 := h6 e6
    obtain ⟨rfl, rfl⟩ := hz
    by_cases e17 : p = 17
    · subst e17
      have hm : ¬ midN 17 = 0 := by decide
      have e : bodyB ⟨a1, a2, 17, sp, dp, t, c, i, 0, 0, o⟩ d s = putB 2 sp.toUInt64 ++ (putB 2 dp.toUInt64 ++ (putB 2 (UInt16.ofInt (8 + (d.length : Int))).toUInt64 ++ (putB 2 s.toUInt64 ++ d))) := by
        unfold bodyB
        rw [if_neg e6, if_pos rfl]
        simp only [List.append_assoc]
      have hl : 8 ≤ (bodyB ⟨a1, a2, 17, sp, dp, t, c, i, 0, 0, o⟩ d s).length := by rw [e]; simp; omega
      have k0 : (takeB (bodyB ⟨a1, a2, 17, sp, dp, t, c, i, 0, 0, o⟩ d s) 0 2).1 = sp.toUInt64 := by refine takeB2 _ 0 _ (by omega) ?_ ?_ <;> rw [e] <;> rfl
      have k2 : (takeB (bodyB ⟨a1, a2, 17, sp, dp, t, c, i, 0, 0, o⟩ d s) 2 2).1 = dp.toUInt64 := by refine takeB2 _ 2 _ (by omega) ?_ ?_ <;> rw [e] <;> rfl
      have k6 : (takeB (bodyB ⟨a1, a2, 17, sp, dp, t, c, i, 0, 0, o⟩ d s) 6 2).1 = s.toUInt64 := by refine takeB2 _ 6 _ (by omega) ?_ ?_ <;> rw [e] <;> rfl
      refine ⟨?_, ?_, fun _ => ?_⟩
      · unfold midH
        rw [hp, if_neg hm, if_neg e6, k0, k2]
        have x1 : sp.toUInt64.toUInt16 = sp := by simp
        have x2 : dp.toUInt64.toUInt16 = dp := by simp
        rw [x1, x2]
        rfl
      · unfold midD
        rw [hp, List.take_length, e]
        rfl
      · unfold midS
        rw [hp]
        show (takeB (bodyB ⟨a1, a2, 17, sp, dp, t, c, i, 0, 0, o⟩ d s) 6 2).1.toUInt16 = s
        rw [k6]
        simp
    · have hm : midN p = 0 := by unfold midN; rw [if_neg e6, if_neg e17]
      have hz : sp = 0 ∧ dp = 0 := h5 hm
      obtain ⟨rfl, rfl⟩ := hz
      have e : bodyB ⟨a1, a2, p, 0, 0, t, c, i, 0, 0, o⟩ d s = d := bodyB_zero _ d s hm
      refine ⟨?_, ?_, fun k => absurd hm k⟩
      · unfold midH
        rw [hp, if_pos hm]
        rfl
      · unfold midD
        rw [hp, hm, e, List.take_length]
        rfl
theorem mid_ok (h : SHeader) (d : List UInt8) (m : Int) (hc : checkH h m = 0) : midE (frontHd h) (restB h d) = 0 := by
  rw [restB_eq]
  obtain ⟨e1, e2, e3⟩ := mid_make h d (restS h d) m hc
  have hl : ((bodyB h d (restS h d)).length : Int) = midN h.proto + d.length := bodyB_length h d _
  have hp : (frontHd h).proto = h.proto := rfl
  unfold midE
  rw [hp, e1, e2]
  rw [if_neg (by omega)]
  by_cases hm : midN h.proto = 0
  · rw [if_pos hm]
  · rw [if_neg hm, e3 hm]
    have k : layB (bodyB (wD h nilSl) d 0) (atN h.proto) (restS h d) = bodyB h d (restS h d) := layB_body h d 0 _ hm
    rw [k, if_neg (fun k => k rfl)]
    have k2 : restS h d = sumH (wD h nilSl) (bodyB (wD h nilSl) d 0) := by unfold restS; rw [if_neg hm]; rfl
    rw [if_neg (fun k => k k2)]
theorem makeB_length (h : SHeader) (d : List UInt8) (m : Int) (hc : checkH h m = 0) : ((makeB h d).length : Int) = frontN h + midN h.proto + d.length := by
  have h1 := headB_length h (restB h d).length (check_parts h m hc).2.2.1
  have h2 := restB_length h d
  unfold makeB
  rw [List.length_append]
  omega
/-- There and back. -/
theorem read_make (h : SHeader) (d t : List UInt8) (hc : checkH h d.length = 0) : readE (makeB h d ++ t) = 0 ∧ readN (makeB h d ++ t) = (makeB h d).length ∧ readD (makeB h d ++ t) = d ∧ readH (makeB h d ++ t) = wD h nilSl := by
  have hp := check_parts h _ hc
  have hlen := makeB_length h d _ hc
  have hrl := restB_length h d
  have hhl := headB_length h (restB h d).length hp.2.2.1
  have hfc := frontN_cases h
  have hmc := midN_cases h.proto
  have hb : makeB h d ++ t = headB h (restB h d).length ++ (restB h d ++ t) := by unfold makeB; rw [List.append_assoc]
  have hF : frontB (makeB h d ++ t) = (frontHd h, frontN h + (restB h d).length, 0) := by rw [hb]; exact front_head h _ _ _ hc (by omega)
  have hfn : frontN (frontHd h) = frontN h := rfl
  have hfN : (frontN h).toNat = (headB h (restB h d).length).length := by omega
  have hR : restOf (makeB h d ++ t) = restB h d := by
    unfold restOf
    rw [hF]
    show ((makeB h d ++ t).take (frontN h + (restB h d).length).toNat).drop (frontN (frontHd h)).toNat = _
    have e1 : (frontN h + (restB h d).length).toNat = (headB h (restB h d).length).length + (restB h d).length := by omega
    rw [e1, hfn, hfN, hb, ← List.append_assoc, List.take_append_of_le_length (by simp), List.take_of_length_le (by simp), List.drop_left]
  have hE : readE (makeB h d ++ t) = 0 := by
    unfold readE
    rw [hF, hR]
    show (if (0 : Int) ≠ 0 then (0 : Int) else if frontN h + ((restB h d).length : Int) < frontN (frontHd h) ∨ 2048 < frontN h + ((restB h d).length : Int) then 161
      else if ((makeB h d ++ t).length : Int) < frontN h + ((restB h d).length : Int) then 160
      else if (frontHd h).src.v6 = false ∧ headB (frontHd h) (frontN h + ((restB h d).length : Int) - frontN (frontHd h)) ≠ (makeB h d ++ t).take (frontN (frontHd h)).toNat then 162
      else midE (frontHd h) (restB h d)) = 0
    rw [if_neg (fun k => k rfl), hfn, if_neg (by omega), if_neg (by rw [List.length_append]; omega), if_neg, mid_ok h d _ hc]
    rintro ⟨_, k⟩
    apply k
    have e1 : frontN h + ((restB h d).length : Int) - frontN h = (restB h d).length := by omega
    rw [e1, hfN, hb, List.take_append_of_le_length (Nat.le_refl _), List.take_of_length_le (Nat.le_refl _)]
    rfl
  obtain ⟨e1, e2, _⟩ := mid_make h d (restS h d) _ hc
  refine ⟨hE, ?_, ?_, ?_⟩
  · unfold readN
    rw [if_pos hE, hF]
    show frontN h + ((restB h d).length : Int) = _
    omega
  · unfold readD
    rw [hR, hF, restB_eq]
    exact e2
  · unfold readH
    rw [if_pos hE, hR, hF, restB_eq]
    exact e1
/-- A packet that is cut off is short. -/
theorem read_short (h : SHeader) (d : List UInt8) (i : Nat) (hc : checkH h d.length = 0) (hi : i < (makeB h d).length) : readE ((makeB h d).take i) = 160 := by
  have hp := check_parts h _ hc
  have hlen := makeB_length h d _ hc
  have hrl := restB_length h d
  have hhl := headB_length h (restB h d).length hp.2.2.1
  have hfc := frontN_cases h
  have hmc := midN_cases h.proto
  have hl : ((makeB h d).take i).length = i := by simp; omega
  by_cases hf : (headB h (restB h d).length).length ≤ i
  · have hF : frontB ((makeB h d).take i) = (frontHd h, frontN h + (restB h d).length, 0) := by
      unfold makeB
      rw [List.take_append, List.take_of_length_le hf]
      exact front_head h _ _ _ hc (by omega)
    have hfn : frontN (frontHd h) = frontN h := rfl
    unfold readE
    rw [hF]
    show (if (0 : Int) ≠ 0 then (0 : Int) else if frontN h + ((restB h d).length : Int) < frontN (frontHd h) ∨ 2048 < frontN h + ((restB h d).length : Int) then 161
      else if (((makeB h d).take i).length : Int) < frontN h + ((restB h d).length : Int) then 160 else _) = 160
    rw [if_neg (fun k => k rfl), hfn, if_neg (by omega), if_pos (by omega)]
  · have hF2 := front_head h (restB h d).length _ (restB h d) hc (by omega)
    have hE : (frontB ((makeB h d).take i)).2.2 = 160 := by
      by_cases h0 : i = 0
      · subst h0
        rfl
      · have e0 : ((makeB h d).take i).getD 0 0 = (makeB h d).getD 0 0 := by
          have hi0 : 0 < i := by omega
          simp only [List.getD_eq_getElem?_getD, List.getElem?_take, if_pos hi0]
        have hm : makeB h d = headB h (restB h d).length ++ restB h d := rfl
        rw [← hm] at hF2
        unfold frontB
        rw [if_neg (by omega), e0]
        rcases frontB_cases (makeB h d) (by rw [hF2]) with ⟨e, hl4, h6⟩ | ⟨e, hl4, h4, _⟩
        · have hv : (frontHd h).src.v6 = true := by
            have k := hF2.symm.trans e
            have k2 : frontHd h = hd6 (makeB h d) := congrArg (fun z : SHeader × Int × Int => z.1) k
            rw [k2]
            rfl
          have hv2 : h.src.v6 = true := hv
          rw [hv2] at hfc
          rw [if_neg (by rw [h6]; decide), if_pos h6, if_pos (by simp at hfc; omega)]
        · have hv : (frontHd h).src.v6 = false := by
            have k := hF2.symm.trans e
            have k2 : frontHd h = hd4 (makeB h d) := congrArg (fun z : SHeader × Int × Int => z.1) k
            rw [k2]
            rfl
          have hv2 : h.src.v6 = false := hv
          rw [hv2] at hfc
          rw [h4, if_pos (by decide), if_pos (by simp at hfc; omega)]
    unfold readE
    rw [hE]
    rfl
end Go.Proofs.Ytegcihhhighipaa
