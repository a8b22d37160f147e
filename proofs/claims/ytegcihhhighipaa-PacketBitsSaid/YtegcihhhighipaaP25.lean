/- packet -/
import Derived.Test.YtegcihhhighipaaP24
set_option linter.unusedVariables false
set_option linter.unusedSimpArgs false
namespace Go.Proofs.Ytegcihhhighipaa
open Go Go.Gx

/-- Zeros from the fifth byte on. -/
def zeroV (v : Vector UInt8 16) (k : Int) : Vector UInt8 16 := Vector.ofFn fun i => if 4 ≤ (i.val : Int) ∧ (i.val : Int) < k then 0 else v[i]
theorem zeroV_four (v : Vector UInt8 16) : zeroV v 4 = v := by
  apply Vector.ext
  intro i hi
  have : ¬ (4 ≤ (i : Int) ∧ (i : Int) < 4) := by omega
  simp only [zeroV, Vector.getElem_ofFn, if_neg this, Fin.getElem_fin]
theorem zeroV_step (v : Vector UInt8 16) (k : Int) (h0 : 4 ≤ k) (h1 : k < 16) (hk : k.toNat < 16) : (zeroV v k).set k.toNat 0 hk = zeroV v (k + 1) := by
  apply Vector.ext
  intro i hi
  rw [Vector.getElem_set]
  by_cases e : k.toNat = i
  · subst e
    have e2 : 4 ≤ ((k.toNat : Nat) : Int) ∧ ((k.toNat : Nat) : Int) < k + 1 := by omega
    simp only [zeroV, Vector.getElem_ofFn, if_pos e2, if_true]
  · rw [if_neg e]
    by_cases e4 : 4 ≤ (i : Int) ∧ (i : Int) < k
    · have e5 : 4 ≤ (i : Int) ∧ (i : Int) < k + 1 := by omega
      simp only [zeroV, Vector.getElem_ofFn, if_pos e4, if_pos e5]
    · have e5 : ¬ (4 ≤ (i : Int) ∧ (i : Int) < k + 1) := by omega
      simp only [zeroV, Vector.getElem_ofFn, if_neg e4, if_neg e5]
/-- A header brought into form, step by step. -/
def fitA (h : SHeader) : SHeader := { h with dst := ⟨h.src.v6, h.dst.b⟩ }
def fitB (h : SHeader) : SHeader := { h with src := ⟨h.src.v6, bif h.src.v6 then h.src.b else zeroV h.src.b 16⟩, dst := ⟨h.dst.v6, bif h.src.v6 then h.dst.b else zeroV h.dst.b 16⟩, id := bif h.src.v6 then h.id else h.id % 65536 }
def fitC (h : SHeader) : SHeader := { h with id := h.id % 1048576 }
def fitE (h : SHeader) : SHeader := { h with flags := if h.proto = 6 then h.flags else 0, seq := if h.proto = 6 then h.seq else 0 }
def fitG (h : SHeader) : SHeader := { h with srcPort := if midN h.proto = 0 then 0 else h.srcPort, dstPort := if midN h.proto = 0 then 0 else h.dstPort }
def fitH (h : SHeader) : SHeader := fitG (fitE (fitC (fitB (fitA h))))
def fitD (h : SHeader) (d : List UInt8) : List UInt8 := d.take (2048 - frontN h - midN h.proto).toNat
theorem fitB_six (h : SHeader) (hv : h.src.v6 = true) : fitB (fitA h) = fitA h := by
  obtain ⟨⟨v, b⟩, ⟨v2, b2⟩⟩ := h
  have hv : v = true := hv
  subst hv
  rfl
theorem fitB_four (h : SHeader) (hv : h.src.v6 = false) : fitB (fitA h) = { (fitA h) with src := ⟨h.src.v6, zeroV h.src.b 16⟩, dst := ⟨h.src.v6, zeroV h.dst.b 16⟩, id := h.id % 65536 } := by
  obtain ⟨⟨v, b⟩, ⟨v2, b2⟩⟩ := h
  have hv : v = false := hv
  subst hv
  rfl
theorem checkA_zero (v : Vector UInt8 16) : checkA ⟨false, zeroV v 16⟩ = 0 := by
  rw [checkA_iff]
  intro _ i h4 hi
  have : 4 ≤ (i : Int) ∧ (i : Int) < 16 := by omega
  simp only [zeroV, Vector.getElem_ofFn, if_pos this]
theorem fit_check (h : SHeader) (d : List UInt8) : checkH (fitH h) (fitD h d).length = 0 := by
  have hfc := frontN_cases h
  have hmc := midN_cases h.proto
  have hf : frontN (fitH h) = frontN h := rfl
  have hp : (fitH h).proto = h.proto := rfl
  have hA : ¬ (checkA (fitH h).src ≠ 0 ∨ checkA (fitH h).dst ≠ 0 ∨ (fitH h).src.v6 ≠ (fitH h).dst.v6 ∨ (bif (fitH h).src.v6 then 1048575 else 65535) < (fitH h).id) := by
    have e1 : (fitH h).src = ⟨h.src.v6, bif h.src.v6 then h.src.b else zeroV h.src.b 16⟩ := rfl
    have e2 : (fitH h).dst = ⟨h.src.v6, bif h.src.v6 then h.dst.b else zeroV h.dst.b 16⟩ := rfl
    have e3 : (fitH h).id = (bif h.src.v6 then h.id else h.id % 65536) % 1048576 := rfl
    rw [e1, e2, e3]
    cases h.src.v6 with
    | true =>
      rintro (k | k | k | k)
      · exact k (checkA_six _)
      · exact k (checkA_six _)
      · exact k rfl
      · have k2 : (1048575 : UInt32) < h.id % 1048576 := k
        rw [UInt32.lt_iff_toNat_lt, UInt32.toNat_mod] at k2
        have e : (1048575 : UInt32).toNat = 1048575 := rfl
        have e2 : (1048576 : UInt32).toNat = 1048576 := rfl
        rw [e, e2] at k2
        omega
    | false =>
      rintro (k | k | k | k)
      · exact k (checkA_zero _)
      · exact k (checkA_zero _)
      · exact k rfl
      · have k2 : (65535 : UInt32) < h.id % 65536 % 1048576 := k
        rw [UInt32.lt_iff_toNat_lt, UInt32.toNat_mod, UInt32.toNat_mod] at k2
        have e : (65535 : UInt32).toNat = 65535 := rfl
        have e2 : (1048576 : UInt32).toNat = 1048576 := rfl
        have e3 : (65536 : UInt32).toNat = 65536 := rfl
        rw [e, e2, e3] at k2
        omega
  have hB : ¬ (midN (fitH h).proto = 0 ∧ ((fitH h).srcPort ≠ 0 ∨ (fitH h).dstPort ≠ 0) ∨ (fitH h).proto ≠ 6 ∧ ((fitH h).flags ≠ 0 ∨ (fitH h).seq ≠ 0)) := by
    have e1 : (fitH h).srcPort = if midN h.proto = 0 then 0 else h.srcPort := rfl
    have e2 : (fitH h).dstPort = if midN h.proto = 0 then 0 else h.dstPort := rfl
    have e3 : (fitH h).flags = if h.proto = 6 then h.flags else 0 := rfl
    have e4 : (fitH h).seq = if h.proto = 6 then h.seq else 0 := rfl
    rw [e1, e2, e3, e4, hp]
    rintro (⟨k1, k2⟩ | ⟨k1, k2⟩)
    · rw [if_pos k1, if_pos k1] at k2
      exact k2.elim (fun k => k rfl) (fun k => k rfl)
    · rw [if_neg k1, if_neg k1] at k2
      exact k2.elim (fun k => k rfl) (fun k => k rfl)
  unfold checkH
  rw [if_neg hA, if_neg hB, if_neg]
  rw [hf, hp]
  unfold fitD
  rw [List.length_take]
  omega

theorem rfit_ok (h : SHeader) (d : List UInt8) (w : World) (hd : IsSl u8E w h.data.v d) : Calls Try.prog 21 #[eHeader.val h] w (RetU w (fun o => eHeader.val (wD (fitH h) o)) (fitD h d)) := by
  have hfc := frontN_cases h
  have hmc := midN_cases h.proto
  have hdl := hd.le
  have hq1 : frontN ((Lens.id eHeader).get (fitH h)) = frontN h := rfl
  have hq2 : midN (SHeader.l_proto.get (fitH h)) = midN h.proto := rfl
  refine enter0 75 Try.func21 rfl rfl (Nat.le_of_ble_eq_true rfl) ?_
  refine seq ?_
  refine region ?_
  refine cons (box (E := eHeader) (.t rfl) (fun b1 => ?_))
  refine cons (alloc z29 (fun b2 => ?_))
  refine nil ?_
  refine pN ?_
  refine seq ?_
  refine region ?_
  refine cons (opv (Ev.fieldAddr (o := 0) (.t rfl) (by kernel_rfl)) ?_)
  refine cons (opv (Ev.fieldAddr (o := 0) (.t rfl) (by kernel_rfl)) ?_)
  refine cons (opv (Ev.load ty4 (.t rfl) (ptsVar (by repeat first | exact mH | apply mT | apply mA) (Lens.comp SHeader.l_src SAddr.l_v6))) ?_)
  refine cons (opv (Ev.fieldAddr (o := 17) (.t rfl) (by kernel_rfl)) ?_)
  refine cons (opv (Ev.fieldAddr (o := 0) (.t rfl) (by kernel_rfl)) ?_)
  refine cons (storeV ty4 (Lens.comp SHeader.l_dst SAddr.l_v6) (.t rfl) (.t rfl) (by repeat first | exact Upd.head | apply Upd.tail | apply Upd.right) ?_)
  refine nil ?_
  refine pN ?_
  refine cut (X := SHeader) (fun x : SHeader => (x = fitB (fitA h))) (fun x : SHeader => [(1, true, .pointer (some ⟨b1, 0, none⟩)), (2, true, .pointer (some ⟨b2, 0, none⟩))]) (fun x : SHeader => [Var b2 eHeader eHeader.zero 29, Var b1 eHeader x 29]) ?_ (fun x hx => ?_)
  · refine seq ?_
    refine region ?_
    show Sat _ _ _ [Var b2 eHeader eHeader.zero 29, Var b1 eHeader (fitA h) 29]
    refine cons (opv (Ev.fieldAddr (o := 0) (.t rfl) (by kernel_rfl)) ?_)
    refine cons (opv (Ev.fieldAddr (o := 0) (.t rfl) (by kernel_rfl)) ?_)
    refine cons (opv (Ev.load ty4 (.t rfl) (ptsVar (by repeat first | exact mH | apply mT | apply mA) (Lens.comp SHeader.l_src SAddr.l_v6))) ?_)
    refine cons (opv (Ev.not (.t rfl)) ?_)
    refine nil ?_
    refine pN ?_
    first | refine condD rfl (fun h0 => ?_) (fun h0 => ?_) | refine cond rfl (fun h0 => ?_) (fun h0 => ?_)
    · try simp only [Bool.and_eq_true, Bool.or_eq_true, Bool.or_eq_false_iff, Bool.and_eq_false_iff, Bool.not_eq_true', Bool.not_eq_false', decide_eq_true_eq, decide_eq_false_iff_not, Decidable.not_not] at h0
      have hv : h.src.v6 = false := show (fitA h).src.v6 = false by simpa using h0
      refine seq ?_
      refine seq ?_
      refine region ?_
      refine cons (opv (Ev.assign (.c (v := I 4) rfl)) ?_)
      refine nil ?_
      refine pN ?_
      refine block ?_
      refine loop (X := Int × SHeader) (fun x : Int × SHeader => (4 ≤ x.1 ∧ x.1 ≤ 16) ∧ (x.2 = { (fitA h) with src := ⟨h.src.v6, zeroV h.src.b x.1⟩, dst := ⟨h.src.v6, zeroV h.dst.b x.1⟩ })) (fun x : Int × SHeader => [(1, true, .pointer (some ⟨b1, 0, none⟩)), (2, true, .pointer (some ⟨b2, 0, none⟩)), (3, true, I x.1)]) (fun x : Int × SHeader => [Var b2 eHeader eHeader.zero 29, Var b1 eHeader x.2 29]) (fun x : Int × SHeader => (16 - x.1).toNat) (4, _) ⟨?_, ?_⟩ (by repeat first | exact Sub.nil | refine Sub.cons rfl ?_) (by repeat first | exact sR | exact sN | apply sC | apply sS | apply sA) (fun x hx => ?_)
      · omega
      · rw [zeroV_four, zeroV_four]; rfl
      obtain ⟨k, y⟩ := x
      obtain ⟨hk, hx⟩ : (4 ≤ k ∧ k ≤ 16) ∧ (y = { (fitA h) with src := ⟨h.src.v6, zeroV h.src.b k⟩, dst := ⟨h.src.v6, zeroV h.dst.b k⟩ }) := hx
      show Sat _ _ [(1, true, .pointer (some ⟨b1, 0, none⟩)), (2, true, .pointer (some ⟨b2, 0, none⟩)), (3, true, I k)] [Var b2 eHeader eHeader.zero 29, Var b1 eHeader y 29]
      subst hx
      refine seq ?_
      refine seq ?_
      refine region ?_
      refine cons (opv (Ev.move (.t rfl)) ?_)
      refine cons (opv (Ev.lss_i (.t rfl) (.c (v := I 16) rfl)) ?_)
      refine nil ?_
      refine pN ?_
      first | refine condD rfl (fun hlt => ?_) (fun hge => ?_) | refine cond rfl (fun hlt => ?_) (fun hge => ?_)
      · try simp only [Bool.and_eq_true, Bool.or_eq_true, Bool.or_eq_false_iff, Bool.and_eq_false_iff, Bool.not_eq_true', Bool.not_eq_false', decide_eq_true_eq, decide_eq_false_iff_not, Decidable.not_not] at hlt
        refine skip ?_
        refine pN ?_
        refine seq ?_
        refine block ?_
        refine seq ?_
        refine region ?_
        have hk16 : k.toNat < 16 := by omega
        refine cons (opv (Ev.move (.t rfl)) ?_)
        refine cons (opv (Ev.fieldAddr (o := 0) (.t rfl) (by kernel_rfl)) ?_)
        refine cons (opv (Ev.fieldAddr (o := 1) (.t rfl) (by kernel_rfl)) ?_)
        refine cons (opv (Ev.indexAddrA Try.underlying22 ty5 (.t rfl) (.t rfl) (fun _ => by omega)) ?_)
        refine cons (storeV ty5 (Lens.comp (Lens.comp SHeader.l_src SAddr.l_b) (lArr (n := 16) u8E _ (by omega))) (.t rfl) (.c (v := U8 0) rfl) (by repeat first | exact Upd.head | apply Upd.tail | apply Upd.right) ?_)
        refine nil ?_
        refine pN ?_
        refine region ?_
        refine cons (opv (Ev.move (.t rfl)) ?_)
        refine cons (opv (Ev.fieldAddr (o := 17) (.t rfl) (by kernel_rfl)) ?_)
        refine cons (opv (Ev.fieldAddr (o := 1) (.t rfl) (by kernel_rfl)) ?_)
        refine cons (opv (Ev.indexAddrA Try.underlying22 ty5 (.t rfl) (.t rfl) (fun _ => by omega)) ?_)
        refine cons (storeV ty5 (Lens.comp (Lens.comp SHeader.l_dst SAddr.l_b) (lArr (n := 16) u8E _ (by omega))) (.t rfl) (.c (v := U8 0) rfl) (by repeat first | exact Upd.head | apply Upd.tail | apply Upd.right) ?_)
        refine nil ?_
        refine bN ?_
        refine pN ?_
        refine region ?_
        refine cons (opv (Ev.move (.t rfl)) ?_)
        refine cons (opv (Ev.add_i (.t rfl) (.c (v := I 1) rfl) (fun _ => by omega)) ?_)
        refine cons (opv (Ev.assign (.t rfl)) ?_)
        refine nil ?_
        refine pN ?_
        refine next (X := Int × SHeader) (k + 1, _) ⟨?_, ?_⟩ ?_ (by repeat first | exact Sub.nil | refine Sub.cons rfl ?_) (by repeat first | exact sR | exact sN | apply sC | apply sS | apply sA)
        · try dsimp only
          omega
        · try dsimp only
          rw [← zeroV_step h.src.b k hk.1 (by omega) hk16, ← zeroV_step h.dst.b k hk.1 (by omega) hk16]
          simp [Lens.comp, lArr]
        · try dsimp only
          omega
      · try simp only [Bool.and_eq_true, Bool.or_eq_true, Bool.or_eq_false_iff, Bool.and_eq_false_iff, Bool.not_eq_true', Bool.not_eq_false', decide_eq_true_eq, decide_eq_false_iff_not, Decidable.not_not] at hge
        have hk2 : k = 16 := by omega
        subst hk2
        refine exit ?_
        refine pX ?_
        refine pX ?_
        refine bX ?_
        refine pN ?_
        refine region ?_
        refine cons (opv (Ev.fieldAddr (o := 39) (.t rfl) (by kernel_rfl)) ?_)
        refine cons (opv (Ev.load ty26 (.t rfl) (ptsVar (by repeat first | exact mH | apply mT | apply mA) SHeader.l_id)) ?_)
        refine cons (opv (Ev.rem_u32 (.t rfl) (.c (v := U32 65536) rfl) (fun _ => by decide)) ?_)
        refine cons (opv (Ev.fieldAddr (o := 39) (.t rfl) (by kernel_rfl)) ?_)
        refine cons (storeV ty26 SHeader.l_id (.t rfl) (.t rfl) (by repeat first | exact Upd.head | apply Upd.tail | apply Upd.right) ?_)
        refine nil ?_
        refine pN ?_
        refine meet (X := SHeader) (_) ?_ (by repeat first | exact Sub.nil | refine Sub.cons rfl ?_) (by repeat first | exact sR | exact sN | apply sC | apply sS | apply sA)
        · try dsimp only
          first
            | exact (fitB_six h (show (fitA h).src.v6 = true by simpa using h0)).symm
            | (rw [fitB_four h hv]; rfl)
    · try simp only [Bool.and_eq_true, Bool.or_eq_true, Bool.or_eq_false_iff, Bool.and_eq_false_iff, Bool.not_eq_true', Bool.not_eq_false', decide_eq_true_eq, decide_eq_false_iff_not, Decidable.not_not] at h0
      refine skip ?_
      refine pN ?_
      refine meet (X := SHeader) (_) ?_ (by repeat first | exact Sub.nil | refine Sub.cons rfl ?_) (by repeat first | exact sR | exact sN | apply sC | apply sS | apply sA)
      · try dsimp only
        first
          | exact (fitB_six h (show (fitA h).src.v6 = true by simpa using h0)).symm
          | (rw [fitB_four h hv]; rfl)
  obtain ⟨x, rfl⟩ : ∃ y, y = x := ⟨x, rfl⟩
  have hx : x = fitB (fitA h) := hx
  clear hx
  show Sat _ _ [(1, true, .pointer (some ⟨b1, 0, none⟩)), (2, true, .pointer (some ⟨b2, 0, none⟩))] [Var b2 eHeader eHeader.zero 29, Var b1 eHeader x 29]
  subst hx
  refine seq ?_
  refine region ?_
  refine cons (opv (Ev.fieldAddr (o := 39) (.t rfl) (by kernel_rfl)) ?_)
  refine cons (opv (Ev.load ty26 (.t rfl) (ptsVar (by repeat first | exact mH | apply mT | apply mA) SHeader.l_id)) ?_)
  refine cons (opv (Ev.rem_u32 (.t rfl) (.c (v := U32 1048576) rfl) (fun _ => by decide)) ?_)
  refine cons (opv (Ev.fieldAddr (o := 39) (.t rfl) (by kernel_rfl)) ?_)
  refine cons (storeV ty26 SHeader.l_id (.t rfl) (.t rfl) (by repeat first | exact Upd.head | apply Upd.tail | apply Upd.right) ?_)
  refine nil ?_
  refine pN ?_
  refine cut (X := SHeader) (fun x : SHeader => (x = fitE (fitC (fitB (fitA h))))) (fun x : SHeader => [(1, true, .pointer (some ⟨b1, 0, none⟩)), (2, true, .pointer (some ⟨b2, 0, none⟩))]) (fun x : SHeader => [Var b2 eHeader eHeader.zero 29, Var b1 eHeader x 29]) ?_ (fun x hx => ?_)
  · refine seq ?_
    refine region ?_
    show Sat _ _ _ [Var b2 eHeader eHeader.zero 29, Var b1 eHeader (fitC (fitB (fitA h))) 29]
    refine cons (opv (Ev.fieldAddr (o := 34) (.t rfl) (by kernel_rfl)) ?_)
    refine cons (opv (Ev.load ty5 (.t rfl) (ptsVar (by repeat first | exact mH | apply mT | apply mA) SHeader.l_proto)) ?_)
    refine cons (opv (Ev.neq_u8 (.t rfl) (.c (v := U8 6) rfl)) ?_)
    refine nil ?_
    refine pN ?_
    first | refine condD rfl (fun h2 => ?_) (fun h2 => ?_) | refine cond rfl (fun h2 => ?_) (fun h2 => ?_)
    · try simp only [Bool.and_eq_true, Bool.or_eq_true, Bool.or_eq_false_iff, Bool.and_eq_false_iff, Bool.not_eq_true', Bool.not_eq_false', decide_eq_true_eq, decide_eq_false_iff_not, Decidable.not_not] at h2
      refine seq ?_
      refine region ?_
      refine cons (opv (Ev.fieldAddr (o := 40) (.t rfl) (by kernel_rfl)) ?_)
      refine cons (storeV ty5 SHeader.l_flags (.t rfl) (.c (v := U8 0) rfl) (by repeat first | exact Upd.head | apply Upd.tail | apply Upd.right) ?_)
      refine nil ?_
      refine pN ?_
      refine region ?_
      refine cons (opv (Ev.fieldAddr (o := 41) (.t rfl) (by kernel_rfl)) ?_)
      refine cons (storeV ty26 SHeader.l_seq (.t rfl) (.c (v := U32 0) rfl) (by repeat first | exact Upd.head | apply Upd.tail | apply Upd.right) ?_)
      refine nil ?_
      refine pN ?_
      refine meet (X := SHeader) (_) ?_ (by repeat first | exact Sub.nil | refine Sub.cons rfl ?_) (by repeat first | exact sR | exact sN | apply sC | apply sS | apply sA)
      · try dsimp only
        first
          | (have hp : ¬ h.proto = 6 := h2
             show _ = fitE _
             unfold fitE
             rw [if_neg (show ¬ (fitC (fitB (fitA h))).proto = 6 from hp), if_neg (show ¬ (fitC (fitB (fitA h))).proto = 6 from hp)]; rfl)
          | (have hp : h.proto = 6 := show (fitC (fitB (fitA h))).proto = 6 by simpa using h2
             show _ = fitE _
             unfold fitE
             rw [if_pos (show (fitC (fitB (fitA h))).proto = 6 from hp), if_pos (show (fitC (fitB (fitA h))).proto = 6 from hp)])
    · try simp only [Bool.and_eq_true, Bool.or_eq_true, Bool.or_eq_false_iff, Bool.and_eq_false_iff, Bool.not_eq_true', Bool.not_eq_false', decide_eq_true_eq, decide_eq_false_iff_not, Decidable.not_not] at h2
      refine skip ?_
      refine pN ?_
      refine meet (X := SHeader) (_) ?_ (by repeat first | exact Sub.nil | refine Sub.cons rfl ?_) (by repeat first | exact sR | exact sN | apply sC | apply sS | apply sA)
      · try dsimp only
        first
          | (have hp : ¬ h.proto = 6 := h2
             show _ = fitE _
             unfold fitE
             rw [if_neg (show ¬ (fitC (fitB (fitA h))).proto = 6 from hp), if_neg (show ¬ (fitC (fitB (fitA h))).proto = 6 from hp)]; rfl)
          | (have hp : h.proto = 6 := show (fitC (fitB (fitA h))).proto = 6 by simpa using h2
             show _ = fitE _
             unfold fitE
             rw [if_pos (show (fitC (fitB (fitA h))).proto = 6 from hp), if_pos (show (fitC (fitB (fitA h))).proto = 6 from hp)])
  obtain ⟨x, rfl⟩ : ∃ y, y = x := ⟨x, rfl⟩
  have hx : x = fitE (fitC (fitB (fitA h))) := hx
  clear hx
  show Sat _ _ [(1, true, .pointer (some ⟨b1, 0, none⟩)), (2, true, .pointer (some ⟨b2, 0, none⟩))] [Var b2 eHeader eHeader.zero 29, Var b1 eHeader x 29]
  subst hx
  refine cut (X := SHeader) (fun x : SHeader => (x = fitH h)) (fun x : SHeader => [(1, true, .pointer (some ⟨b1, 0, none⟩)), (2, true, .pointer (some ⟨b2, 0, none⟩))]) (fun x : SHeader => [Var b2 eHeader eHeader.zero 29, Var b1 eHeader x 29]) ?_ (fun x hx => ?_)
  · refine seq ?_
    refine region ?_
    refine cons (opv (Ev.fieldAddr (o := 34) (.t rfl) (by kernel_rfl)) ?_)
    refine cons (opv (Ev.load ty5 (.t rfl) (ptsVar (by repeat first | exact mH | apply mT | apply mA) SHeader.l_proto)) ?_)
    refine cons (callv en31 (.cons (.t rfl) .nil) (fun w I => rmiddle_ok _ w) ?_)
    refine cons (opv (Ev.eql_i (.t rfl) (.c (v := I 0) rfl)) ?_)
    refine nil ?_
    refine pN ?_
    first | refine condD rfl (fun h3 => ?_) (fun h3 => ?_) | refine cond rfl (fun h3 => ?_) (fun h3 => ?_)
    · try simp only [Bool.and_eq_true, Bool.or_eq_true, Bool.or_eq_false_iff, Bool.and_eq_false_iff, Bool.not_eq_true', Bool.not_eq_false', decide_eq_true_eq, decide_eq_false_iff_not, Decidable.not_not] at h3
      refine seq ?_
      refine region ?_
      refine cons (opv (Ev.fieldAddr (o := 35) (.t rfl) (by kernel_rfl)) ?_)
      refine cons (storeV ty25 SHeader.l_srcPort (.t rfl) (.c (v := U16 0) rfl) (by repeat first | exact Upd.head | apply Upd.tail | apply Upd.right) ?_)
      refine nil ?_
      refine pN ?_
      refine region ?_
      refine cons (opv (Ev.fieldAddr (o := 36) (.t rfl) (by kernel_rfl)) ?_)
      refine cons (storeV ty25 SHeader.l_dstPort (.t rfl) (.c (v := U16 0) rfl) (by repeat first | exact Upd.head | apply Upd.tail | apply Upd.right) ?_)
      refine nil ?_
      refine pN ?_
      refine meet (X := SHeader) (_) ?_ (by repeat first | exact Sub.nil | refine Sub.cons rfl ?_) (by repeat first | exact sR | exact sN | apply sC | apply sS | apply sA)
      · try dsimp only
        first
          | (have hp : midN h.proto = 0 := h3
             show _ = fitG _
             unfold fitG
             rw [if_pos (show midN (fitE (fitC (fitB (fitA h)))).proto = 0 from hp), if_pos (show midN (fitE (fitC (fitB (fitA h)))).proto = 0 from hp)]; rfl)
          | (have hp : ¬ midN h.proto = 0 := h3
             show _ = fitG _
             unfold fitG
             rw [if_neg (show ¬ midN (fitE (fitC (fitB (fitA h)))).proto = 0 from hp), if_neg (show ¬ midN (fitE (fitC (fitB (fitA h)))).proto = 0 from hp)])
    · try simp only [Bool.and_eq_true, Bool.or_eq_true, Bool.or_eq_false_iff, Bool.and_eq_false_iff, Bool.not_eq_true', Bool.not_eq_false', decide_eq_true_eq, decide_eq_false_iff_not, Decidable.not_not] at h3
      refine skip ?_
      refine pN ?_
      refine meet (X := SHeader) (_) ?_ (by repeat first | exact Sub.nil | refine Sub.cons rfl ?_) (by repeat first | exact sR | exact sN | apply sC | apply sS | apply sA)
      · try dsimp only
        first
          | (have hp : midN h.proto = 0 := h3
             show _ = fitG _
             unfold fitG
             rw [if_pos (show midN (fitE (fitC (fitB (fitA h)))).proto = 0 from hp), if_pos (show midN (fitE (fitC (fitB (fitA h)))).proto = 0 from hp)]; rfl)
          | (have hp : ¬ midN h.proto = 0 := h3
             show _ = fitG _
             unfold fitG
             rw [if_neg (show ¬ midN (fitE (fitC (fitB (fitA h)))).proto = 0 from hp), if_neg (show ¬ midN (fitE (fitC (fitB (fitA h)))).proto = 0 from hp)])
  obtain ⟨x, rfl⟩ : ∃ y, y = x := ⟨x, rfl⟩
  have hx : x = fitH h := hx
  clear hx
  show Sat _ _ [(1, true, .pointer (some ⟨b1, 0, none⟩)), (2, true, .pointer (some ⟨b2, 0, none⟩))] [Var b2 eHeader eHeader.zero 29, Var b1 eHeader x 29]
  subst hx
  refine seq ?_
  refine region ?_
  refine cons (opv (Ev.assign (.c (v := (Go.Value.slice none 0 0)) rfl)) ?_)
  refine takeNil u8E 5 ?_
  refine nil ?_
  refine pN ?_
  refine seq ?_
  refine seq ?_
  refine region ?_
  refine cons (opv (Ev.assign (.c (v := I 0) rfl)) ?_)
  refine nil ?_
  refine pN ?_
  refine block ?_
  refine loop (X := Int × OV × (List UInt8)) (fun x : Int × OV × (List UInt8) => (0 ≤ x.1 ∧ x.1 ≤ d.length ∧ x.1 ≤ 2048 - frontN h - midN h.proto) ∧ (x.2.2 = d.take x.1.toNat)) (fun x : Int × OV × (List UInt8) => [(1, true, .pointer (some ⟨b1, 0, none⟩)), (2, true, .pointer (some ⟨b2, 0, none⟩)), (4, true, x.2.1.v), (5, true, I x.1)]) (fun x : Int × OV × (List UInt8) => [OwnS x.2.1.v u8E x.2.2 5, Var b2 eHeader eHeader.zero 29, Var b1 eHeader (fitH h) 29]) (fun x : Int × OV × (List UInt8) => (d.length - x.1).toNat) (0, nilSl, []) ⟨?_, ?_⟩ (by repeat first | exact Sub.nil | refine Sub.cons rfl ?_) (by repeat first | exact sR | exact sN | apply sC | apply sS | apply sA) (fun x hx => ?_)
  · omega
  · rfl
  obtain ⟨i, o, xs⟩ := x
  obtain ⟨hi, hxs⟩ : (0 ≤ i ∧ i ≤ d.length ∧ i ≤ 2048 - frontN h - midN h.proto) ∧ (xs = d.take i.toNat) := hx
  show Sat _ _ [(1, true, .pointer (some ⟨b1, 0, none⟩)), (2, true, .pointer (some ⟨b2, 0, none⟩)), (4, true, o.v), (5, true, I i)] [OwnS o.v u8E xs 5, Var b2 eHeader eHeader.zero 29, Var b1 eHeader (fitH h) 29]
  refine seq ?_
  refine seq ?_
  refine draw' (by kernel_rfl) ?_
  refine take 0 rfl (by kernel_rfl) (by kernel_rfl) (by kernel_rfl) (by repeat first | exact sR | exact sN | apply sC | apply sS | apply sA) (Ev.move (.t rfl)) ?_
  refine take 1 rfl (by kernel_rfl) (by kernel_rfl) (by kernel_rfl) (by repeat first | exact sR | exact sN | apply sC | apply sS | apply sA) (Ev.fieldAddr (o := 42) (.t rfl) (by kernel_rfl)) ?_
  refine take 2 rfl (by kernel_rfl) (by kernel_rfl) (by kernel_rfl) (by repeat first | exact sR | exact sN | apply sC | apply sS | apply sA) (Ev.load ty27 (.t rfl) (ptsVar (by repeat first | exact mH | apply mT | apply mA) SHeader.l_data)) ?_
  refine take 3 rfl (by kernel_rfl) (by kernel_rfl) (by kernel_rfl) (by repeat first | exact sR | exact sN | apply sC | apply sS | apply sA) (Ev.len Try.underlying27 (.t rfl) (fun w I => hd.keep0 I.keeps)) ?_
  refine take 4 rfl (by kernel_rfl) (by kernel_rfl) (by kernel_rfl) (by repeat first | exact sR | exact sN | apply sC | apply sS | apply sA) (Ev.lss_i (.t rfl) (.t rfl)) ?_
  refine take 5 rfl (by kernel_rfl) (by kernel_rfl) (by kernel_rfl) (by repeat first | exact sR | exact sN | apply sC | apply sS | apply sA) (Ev.move (.t rfl)) ?_
  refine takeg 6 rfl (by kernel_rfl) (by kernel_rfl) (by kernel_rfl) (by repeat first | exact sR | exact sN | apply sC | apply sS | apply sA) rfl rfl (Ev.load ty29 (.t rfl) (ptsVar (by repeat first | exact mH | apply mT | apply mA) (Lens.id _))) ?_
  refine takeg 8 rfl (by kernel_rfl) (by kernel_rfl) (by kernel_rfl) (by repeat first | exact sR | exact sN | apply sC | apply sS | apply sA) rfl rfl (Ev.fieldAddr (o := 34) (.t rfl) (by kernel_rfl)) ?_
  refine takeg 9 rfl (by kernel_rfl) (by kernel_rfl) (by kernel_rfl) (by repeat first | exact sR | exact sN | apply sC | apply sS | apply sA) rfl rfl (Ev.load ty5 (.g rfl id) (ptsVar (by repeat first | exact mH | apply mT | apply mA) SHeader.l_proto)) ?_
  refine takeg 12 rfl (by kernel_rfl) (by kernel_rfl) (by kernel_rfl) (by repeat first | exact sR | exact sN | apply sC | apply sS | apply sA) rfl rfl (Ev.move (.t rfl)) ?_
  refine all [7] (by kernel_rfl) (by decide) (.cons rfl ?_ .nil)
  refine (callg rfl rfl en32 (.cons (.g rfl id) .nil) (fun hg w I => rfront_ok _ w) ?_)
  refine heldN_of (by repeat first | exact sR | exact sN | apply sC | apply sS | apply sA) ?_
  refine all [10] (by kernel_rfl) (by decide) (.cons rfl ?_ .nil)
  refine (callg rfl rfl en31 (.cons (.g rfl id) .nil) (fun hg w I => rmiddle_ok _ w) ?_)
  refine heldN_of (by repeat first | exact sR | exact sN | apply sC | apply sS | apply sA) ?_
  refine takeg 11 rfl (by kernel_rfl) (by kernel_rfl) (by kernel_rfl) (by repeat first | exact sR | exact sN | apply sC | apply sS | apply sA) rfl rfl (Ev.add_i (.g rfl id) (.g rfl id) (fun _ => by first | omega | (rename_i hg; simp at hg; omega))) ?_
  refine takeg 13 rfl (by kernel_rfl) (by kernel_rfl) (by kernel_rfl) (by repeat first | exact sR | exact sN | apply sC | apply sS | apply sA) rfl rfl (Ev.add_i (.g rfl id) (.g rfl id) (fun _ => by first | omega | (rename_i hg; simp at hg; omega))) ?_
  refine takeg 14 rfl (by kernel_rfl) (by kernel_rfl) (by kernel_rfl) (by repeat first | exact sR | exact sN | apply sC | apply sS | apply sA) rfl rfl (Ev.lss_i (.g rfl id) (.c (v := I 2048) rfl)) ?_
  refine take 15 rfl (by kernel_rfl) (by kernel_rfl) (by kernel_rfl) (by repeat first | exact sR | exact sN | apply sC | apply sS | apply sA) (Ev.pickA (.t rfl) (fun {_} h => by cases h; rfl) ⟨_, rfl⟩ (by intro h1 h; first | (rw [h] <;> rfl) | (rw [h1, h] <;> rfl) | (rw [h, h1] <;> rfl) | simp_all) (.c (v := .bool false) rfl)) ?_
  refine over (by kernel_rfl) ?_
  refine pN ?_
  first | refine condD rfl (fun h4 => ?_) (fun h4 => ?_) | refine cond rfl (fun h4 => ?_) (fun h4 => ?_)
  · try simp only [Bool.and_eq_true, Bool.or_eq_true, Bool.or_eq_false_iff, Bool.and_eq_false_iff, Bool.not_eq_true', Bool.not_eq_false', decide_eq_true_eq, decide_eq_false_iff_not, Decidable.not_not] at h4
    have hxl : xs.length = i.toNat := by rw [hxs]; simp; omega
    have hgo : i < d.length ∧ frontN h + midN h.proto + i < 2048 := h4
    refine skip ?_
    refine pN ?_
    refine seq ?_
    refine block ?_
    refine region ?_
    refine cons (opv (Ev.move (.t rfl)) ?_)
    refine cons (opv (Ev.fieldAddr (o := 42) (.t rfl) (by kernel_rfl)) ?_)
    refine cons (opv (Ev.load ty27 (.t rfl) (ptsVar (by repeat first | exact mH | apply mT | apply mA) SHeader.l_data)) ?_)
    refine cons (opv (Ev.move (.t rfl)) ?_)
    refine cons (opv (Ev.indexAddr Try.underlying27 ty5 (.t rfl) (.t rfl) (fun w I => hd.keep0 I.keeps) (fun _ => by omega)) ?_)
    refine cons (opv (Ev.loadS0 ty5 (.t rfl) (fun w I => hd.keep0 I.keeps) (fun _ => by omega)) ?_)
    refine cons (buildSlice (E := u8E) Try.underlying27 ty5 z5 (.cons (.t rfl) .nil) rfl rfl (fun v3 => ?_))
    refine cons (append (E := u8E) Try.underlying27 ty5 rfl zb5 zs5 (.t rfl) (.t rfl) (fun _ => by repeat first | exact Upd.head | apply Upd.tail | apply Upd.right) (by first | exact isSl_own (by repeat first | exact mH | apply mT | apply mA) | exact fun w I => IsSl.keep0 (by assumption) I.keeps) (⟨by (show _ ≤ 9223372036854775807); first | omega | (simp; done) | (simp; omega), by first | omega | (simp; done) | (simp; omega)⟩) (fun v4 => ?_))
    refine cons (opv (Ev.assign (.t rfl)) ?_)
    refine nil ?_
    refine bN ?_
    refine pN ?_
    refine region ?_
    refine cons (opv (Ev.move (.t rfl)) ?_)
    refine cons (opv (Ev.add_i (.t rfl) (.c (v := I 1) rfl) (fun _ => by omega)) ?_)
    refine cons (opv (Ev.assign (.t rfl)) ?_)
    refine nil ?_
    refine pN ?_
    refine next (X := Int × OV × (List UInt8)) (i + 1, _, _) ⟨?_, ?_⟩ ?_ (by repeat first | exact Sub.nil | refine Sub.cons rfl ?_) (by repeat first | exact sR | exact sN | apply sC | apply sS | apply sA)
    · try dsimp only
      omega
    · try dsimp only
      rw [hxs, take_snoc d i hi.1 (by omega) 0]; rfl
    · try dsimp only
      omega
  · try simp only [Bool.and_eq_true, Bool.or_eq_true, Bool.or_eq_false_iff, Bool.and_eq_false_iff, Bool.not_eq_true', Bool.not_eq_false', decide_eq_true_eq, decide_eq_false_iff_not, Decidable.not_not] at h4
    have hstop : ¬ (i < d.length ∧ frontN h + midN h.proto + i < 2048) := fun hc => by
      rcases h4 with k | k
      · exact k hc.1
      · exact k hc.2
    refine exit ?_
    refine pX ?_
    refine pX ?_
    refine bX ?_
    refine pN ?_
    refine seq ?_
    refine region ?_
    refine cons (opv (Ev.move (.t rfl)) ?_)
    refine cons (opv (Ev.fieldAddr (o := 42) (.t rfl) (by kernel_rfl)) ?_)
    refine cons (storeV ty27 SHeader.l_data (.t rfl) (.t rfl) (by repeat first | exact Upd.head | apply Upd.tail | apply Upd.right) ?_)
    refine nil ?_
    refine pN ?_
    refine seq ?_
    refine region ?_
    refine cons (opv (Ev.load ty29 (.t rfl) (ptsVar (by repeat first | exact mH | apply mT | apply mA) (Lens.id _))) ?_)
    refine cons (storeV ty29 (Lens.id _) (.t rfl) (.t rfl) (by repeat first | exact Upd.head | apply Upd.tail | apply Upd.right) ?_)
    refine nil ?_
    refine pN ?_
    refine ret ?_
    refine done rfl (.cell rfl (fun w I => run_loadVar_pts ty29 (ptsVar (by repeat first | exact mH | apply mT | apply mA) (Lens.id _) w I)) .nil) (fun w I => ?_)
    have e : xs = fitD h d := by
      rw [hxs]
      unfold fitD
      by_cases hq : i < d.length
      · congr 1
        omega
      · rw [List.take_of_length_le (by omega), List.take_of_length_le (by omega)]
    rw [e] at I
    exact retN o trivial rfl (List.cons_sublist_cons.2 (List.nil_sublist _)) w I

theorem en21 : Enters Try.prog 21 := Enters.mk' (by kernel_rfl)
end Go.Proofs.Ytegcihhhighipaa
