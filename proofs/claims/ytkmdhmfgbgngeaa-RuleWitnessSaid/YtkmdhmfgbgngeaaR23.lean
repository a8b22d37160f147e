/- rule -/
import Derived.Test.YtkmdhmfgbgngeaaR22
set_option linter.unusedVariables false
set_option linter.unusedSimpArgs false
namespace Go.Proofs.Ytkmdhmfgbgngeaa
open Go Go.Gx

theorem good_in {n : SMatch} {c : SLaw19Came} {i : Int} (h : Good19 n c) (h0 : 0 ≤ i ∧ i ≤ 255) (hn : asksB n 1 = true → withinB n.in_ i = true) : Good19 n (inE c i) := by
  rw [good_iff] at h ⊢
  obtain ⟨⟨_, _, u3, u4, u5, u6⟩, _, g2, g3, g4, g5, g6⟩ := h
  exact ⟨⟨h0.1, h0.2, u3, u4, u5, u6⟩, hn, g2, g3, g4, g5, g6⟩
theorem good_sp {n : SMatch} {c : SLaw19Came} {p : UInt16} (h : Good19 n c) (h0 : c.h.proto = 6 ∨ c.h.proto = 17) (hn : asksB n 16 = true → withinB n.srcPort p.toNat = true) : Good19 n (spE c p) := by
  rw [good_iff] at h ⊢
  obtain ⟨⟨u1, u2, u3, u4, u5, u6⟩, g1, g2, g3, g4, g5, g6⟩ := h
  exact ⟨⟨u1, u2, u3, u4, u5, .inl h0⟩, g1, g2, g3, g4, hn, g6⟩
theorem good_dp {n : SMatch} {c : SLaw19Came} {p : UInt16} (h : Good19 n c) (h0 : c.h.proto = 6 ∨ c.h.proto = 17) (hn : asksB n 32 = true → withinB n.dstPort p.toNat = true) : Good19 n (dpE c p) := by
  rw [good_iff] at h ⊢
  obtain ⟨⟨u1, u2, u3, u4, u5, u6⟩, g1, g2, g3, g4, g5, g6⟩ := h
  exact ⟨⟨u1, u2, u3, u4, u5, .inl h0⟩, g1, g2, g3, g4, g5, hn⟩
theorem good_sr {n : SMatch} {c : SLaw19Came} {a : SAddr} (h : Good19 n c) (hz : hasP (zP a.v6) a = true) (hv : a.v6 = c.h.dst.v6) (hn : asksB n 2 = true → hasP n.src a = true) : Good19 n (srE c a) := by
  rw [good_iff] at h ⊢
  obtain ⟨⟨u1, u2, u3, u4, u5, u6⟩, g1, g2, g3, g4, g5, g6⟩ := h
  exact ⟨⟨u1, u2, hv, hz, u5, u6⟩, g1, g2, hn, g4, g5, g6⟩
theorem good_ds {n : SMatch} {c : SLaw19Came} {a : SAddr} (h : Good19 n c) (hz : hasP (zP a.v6) a = true) (hv : c.h.src.v6 = a.v6) (hn : asksB n 4 = true → hasP n.dst a = true) : Good19 n (dsE c a) := by
  rw [good_iff] at h ⊢
  obtain ⟨⟨u1, u2, u3, u4, u5, u6⟩, g1, g2, g3, g4, g5, g6⟩ := h
  exact ⟨⟨u1, u2, hv, u4, hz, u6⟩, g1, g2, g3, hn, g5, g6⟩
theorem span_no {p q : Bool} {a b : SSpan} {t : UInt16} (h : spansR p a q b t = false) : p = true ∧ ∃ x : UInt16, (x = (bif q then b else ⟨0, t⟩).from_ ∨ x = (bif q then b else ⟨0, t⟩).to_) ∧ ((bif q then b else ⟨0, t⟩).from_ ≤ (bif q then b else ⟨0, t⟩).to_ → withinB a x.toNat = false) := by
  unfold spansR at h
  rw [Bool.or_eq_false_iff] at h
  obtain ⟨h1, h2⟩ := h
  refine ⟨by simpa using h1, ?_⟩
  generalize (bif q then b else ⟨0, t⟩) = B at h2 ⊢
  rw [Bool.and_eq_false_iff] at h2
  unfold withinB
  rcases h2 with h2 | h2
  · refine ⟨B.from_, .inl rfl, fun _ => ?_⟩
    have k := of_decide_eq_false h2
    rw [u16le] at k
    rw [Bool.and_eq_false_iff]
    exact .inl (decide_eq_false (by omega))
  · refine ⟨B.to_, .inr rfl, fun _ => ?_⟩
    have k := of_decide_eq_false h2
    rw [u16le] at k
    rw [Bool.and_eq_false_iff]
    exact .inr (decide_eq_false (by omega))
theorem mem_pts (s : SSpan) (q : Bool) (x : UInt16) (hx : x = (bif q then s else ⟨0, 65535⟩).from_ ∨ x = (bif q then s else ⟨0, 65535⟩).to_) (hs : s.from_ ≤ s.to_) : x ∈ ptsLst s ∧ (q = true → withinB s x.toNat = true) := by
  have hw := within_from s hs
  cases q with
  | true =>
    rcases hx with rfl | rfl
    · exact ⟨by simp [ptsLst], fun _ => hw.1⟩
    · exact ⟨by simp [ptsLst], fun _ => hw.2⟩
  | false =>
    rcases hx with rfl | rfl
    · exact ⟨by simp [ptsLst], fun k => by cases k⟩
    · exact ⟨by simp [ptsLst], fun k => by cases k⟩
theorem zero_top (t : UInt16) : (0 : UInt16) ≤ t := by rw [u16le]; exact Nat.zero_le _
/-- Where Covers says no, a packet of the list shows it. -/
theorem covers_wit {m n : SMatch} (hm : okM m = true) (hn : okM n = true) (hc : coversM m n = false) : ∃ c ∈ cornersL m n, Good19 n c ∧ metB m c.in_ c.h = false := by
  have om := Ok2.of hm
  have on := Ok2.of hn
  have hex : ∃ v, kv v n = true := by
    have k := (kI_eq on.toOk).2
    rw [Bool.or_eq_true] at k
    rcases k with k | k
    · exact ⟨false, k⟩
    · exact ⟨true, k⟩
  obtain ⟨v0, hv0⟩ := hex
  have e255 : UInt16.toNat 255 = 255 := rfl
  have e0 : UInt16.toNat 0 = 0 := rfl
  by_cases a3 : cpB m n = true
  · by_cases a1 : spansR (asksB m 1) m.in_ (asksB n 1) n.in_ 255 = true
    · by_cases a4 : spansR (asksB m 16) m.srcPort (asksB n 16) n.srcPort 65535 = true
      · by_cases a5 : spansR (asksB m 32) m.dstPort (asksB n 32) n.dstPort 65535 = true
        · have a2 : ¬ acB m n = true := fun k => by
            rw [(covers_parts hm hn).2 ⟨a1, k, a3, a4, a5⟩] at hc
            cases hc
          obtain ⟨v, hv⟩ := Classical.not_forall.1 (fun h => a2 ((ac_iff m n).2 h))
          obtain ⟨hv1, hv2⟩ := Classical.not_imp.1 hv
          obtain ⟨hg, hs, hd⟩ := base_good hn hv1
          obtain ⟨v1, v2⟩ := (kv_iff on.toOk v).1 hv1
          by_cases h2 : asksB m 2 = true → Sub m.src (eP (asksB n 2) n.src v)
          · have h4 : ¬ (asksB m 4 = true → Sub m.dst (eP (asksB n 4) n.dst v)) := fun k => hv2 ⟨h2, k⟩
            obtain ⟨k1, k2⟩ := Classical.not_imp.1 h4
            have ce := eP_chk on.cdst v
            have ve := eP_v6 v2
            rcases not_sub (om.cdst k1) ce k2 with q | q
            · exact ⟨_, (mem_base m n v).2, hg, met_ds k1 (by rw [hd]; exact q)⟩
            · have lf := (last_facts ce).1
              have la := ((hasP_iff _ _).1 lf).2.1
              have hp : eP (asksB n 4) n.dst v ∈ pfsL n v := by unfold eP; cases asksB n 4 <;> simp [pfsL]
              exact ⟨_, (mem_ad (m := m) hp ve (a := lastA (eP (asksB n 4) n.dst v)) (by simp [adsL])).2, good_ds hg (hasP_zP la _ rfl) (by rw [hs]; exact (eP_v6 v1).trans ve.symm) (fun k => by
                have e : eP (asksB n 4) n.dst v = n.dst := by unfold eP; rw [k]; rfl
                rw [e] at lf ⊢
                exact lf), met_ds k1 q⟩
          · obtain ⟨k1, k2⟩ := Classical.not_imp.1 h2
            have ce := eP_chk on.csrc v
            have ve := eP_v6 v1
            rcases not_sub (om.csrc k1) ce k2 with q | q
            · exact ⟨_, (mem_base m n v).2, hg, met_sr k1 (by rw [hs]; exact q)⟩
            · have lf := (last_facts ce).1
              have la := ((hasP_iff _ _).1 lf).2.1
              have hp : eP (asksB n 2) n.src v ∈ pfsL n v := by unfold eP; cases asksB n 2 <;> simp [pfsL]
              exact ⟨_, (mem_ad (m := m) hp ve (a := lastA (eP (asksB n 2) n.src v)) (by simp [adsL])).1, good_sr hg (hasP_zP la _ rfl) (by rw [hd]; exact ve.trans (eP_v6 v2).symm) (fun k => by
                have e : eP (asksB n 2) n.src v = n.src := by unfold eP; rw [k]; rfl
                rw [e] at lf ⊢
                exact lf), met_sr k1 q⟩
        · obtain ⟨k1, x, hx, k2⟩ := span_no (Bool.eq_false_iff.2 a5)
          obtain ⟨hg, _, _⟩ := base_good hn hv0
          obtain ⟨q1, q2⟩ := mem_pts n.dstPort (asksB n 32) x hx on.odp
          have hp := good3_of_ok hm (.inr k1)
          have hpn : m.proto = n.proto := by
            unfold cpB at a3
            rw [hp.1] at a3
            simp at a3
            exact a3.2
          have hpr : (baseM n n v0).h.proto = n.proto := max_same8 _
          exact ⟨_, mem_dp (m := m) q1, good_dp hg (by rw [hpr, ← hpn]; exact hp.2) q2, met_dp k1 (k2 (by cases asksB n 32; exact zero_top _; exact on.odp))⟩
      · obtain ⟨k1, x, hx, k2⟩ := span_no (Bool.eq_false_iff.2 a4)
        obtain ⟨hg, _, _⟩ := base_good hn hv0
        obtain ⟨q1, q2⟩ := mem_pts n.srcPort (asksB n 16) x hx on.osp
        have hp := good3_of_ok hm (.inl k1)
        have hpn : m.proto = n.proto := by
          unfold cpB at a3
          rw [hp.1] at a3
          simp at a3
          exact a3.2
        have hpr : (baseM n n v0).h.proto = n.proto := max_same8 _
        exact ⟨_, mem_sp (m := m) q1, good_sp hg (by rw [hpr, ← hpn]; exact hp.2) q2, met_sp k1 (k2 (by cases asksB n 16; exact zero_top _; exact on.osp))⟩
    · obtain ⟨k1, x, hx, k2⟩ := span_no (Bool.eq_false_iff.2 a1)
      obtain ⟨hg, _, _⟩ := base_good hn hv0
      have hw := within_from n.in_ on.oin.1
      have hoi := on.oin
      rw [u16le, u16le] at hoi
      have q : (x.toNat : Int) ∈ insL n ∧ x.toNat ≤ 255 ∧ (asksB n 1 = true → withinB n.in_ x.toNat = true) := by
        cases hq : asksB n 1 with
        | true =>
          rw [hq] at hx
          rcases hx with rfl | rfl
          · exact ⟨by simp [insL], by show n.in_.from_.toNat ≤ 255; omega, fun _ => hw.1⟩
          · exact ⟨by simp [insL], by show n.in_.to_.toNat ≤ 255; omega, fun _ => hw.2⟩
        | false =>
          rw [hq] at hx
          rcases hx with rfl | rfl
          · exact ⟨by simp [insL], (by show UInt16.toNat 0 ≤ 255; decide), fun k => by cases k⟩
          · exact ⟨by simp [insL], (by show UInt16.toNat 255 ≤ 255; decide), fun k => by cases k⟩
      exact ⟨_, mem_in (m := m) (v := v0) q.1, good_in hg ⟨by omega, by omega⟩ q.2.2, met_in k1 (k2 (by cases asksB n 1; exact zero_top _; exact on.oin.1))⟩
  · obtain ⟨hg, _, _⟩ := base_good hn hv0
    have k3 : asksB m 8 = true ∧ (asksB n 8 = false ∨ ¬ m.proto = n.proto) := by
      unfold cpB at a3
      simp only [Bool.not_eq_true', Bool.not_eq_false, Bool.and_eq_true, Bool.or_eq_true, decide_eq_true_eq] at a3
      exact a3
    have hpr : (baseM n n v0).h.proto = n.proto := max_same8 _
    by_cases e : n.proto = m.proto
    · have hn8 : asksB n 8 = false := k3.2.resolve_right (fun k => k e.symm)
      have hp0 := on.proto hn8
      have h16 : asksB n 16 = true ∨ asksB n 32 = true → False := fun k => by
        rw [(good3_of_ok hn k).1] at hn8
        cases hn8
      refine ⟨_, mem_pr (m := m) (v := v0) (p := n.proto + 1) (by simp [prsL]), ?_, ?_⟩
      · rw [good_iff] at hg ⊢
        obtain ⟨⟨u1, u2, u3, u4, u5, u6⟩, g1, g2, g3, g4, g5, g6⟩ := hg
        have ef : prE (baseM n n v0) (n.proto + 1) = { (baseM n n v0) with h := { (baseM n n v0).h with proto := n.proto + 1, srcPort := 0, dstPort := 0 } } := by
          unfold prE
          rw [if_neg]
          rw [hp0]
          decide
        rw [ef]
        exact ⟨⟨u1, u2, u3, u4, u5, .inr ⟨rfl, rfl⟩⟩, g1, (fun k => by rw [hn8] at k; cases k), g3, g4, fun k => (h16 (.inl k)).elim, fun k => (h16 (.inr k)).elim⟩
      · refine met_pr k3.1 ?_
        have ef : (prE (baseM n n v0) (n.proto + 1)).h.proto = n.proto + 1 := by unfold prE; split <;> rfl
        rw [ef, ← e, hp0]
        decide
    · exact ⟨_, (mem_base m n v0).2, hg, met_pr k3.1 (by rw [hpr]; exact e)⟩
theorem hasP_trans {a b : SPrefix} {x : SAddr} (hb : checkP b = 0) (h1 : hasP a x = true) (h2 : hasP b x = true) (hl : a.bits ≤ b.bits) : hasP a b.addr = true := by
  obtain ⟨g1, _, g3, g4⟩ := (hasP_iff _ _).1 h1
  obtain ⟨_, _, k3, k4⟩ := (hasP_iff _ _).1 h2
  exact (hasP_iff _ _).2 ⟨g1, checkP_addr b hb, k3.symm.trans g3, fun i i0 i1 => (k4 i i0 (by omega)).symm.trans (g4 i i0 i1)⟩
theorem meet_of {a b : SPrefix} {x : SAddr} (h1 : hasP a x = true) (h2 : hasP b x = true) : meetB a b = true := by
  have ca := ((hasP_iff _ _).1 h1).1
  have cb := ((hasP_iff _ _).1 h2).1
  unfold meetB
  rw [Bool.or_eq_true]
  rcases Int.le_total a.bits b.bits with hl | hl
  · exact .inl (hasP_trans cb h1 h2 hl)
  · exact .inr (hasP_trans ca h2 h1 hl)
theorem both_no {p q r : Bool} (h : p = true → q = true → r = false) : (p && q && r) = false := by
  cases p <;> cases q <;> simp_all
theorem not_unlike {a b : SSpan} {x : Nat} (h1 : withinB a x = true) (h2 : withinB b x = true) : unlikeB a b = false := by
  unfold withinB at h1 h2
  simp only [Bool.and_eq_true, decide_eq_true_eq] at h1 h2
  unfold unlikeB
  rw [Bool.or_eq_false_iff]
  exact ⟨decide_eq_false (by rw [u16lt]; omega), decide_eq_false (by rw [u16lt]; omega)⟩
/-- Where a usual packet meets both, they are not apart. -/
theorem apart_sound {m n : SMatch} (hm : okM m = true) (hn : okM n = true) {c : SLaw19Came} (h1 : Good19 n c) (h2 : metB m c.in_ c.h = true) : apartM m n = false := by
  have om := Ok.of hm
  have on := Ok.of hn
  have gm := (good_iff m c).1 ⟨h1.1, h2⟩
  have gn := (good_iff n c).1 h1
  obtain ⟨⟨u1, u2, u3, u4, u5, u6⟩, g1, g2, g3, g4, g5, g6⟩ := gm
  obtain ⟨_, k1, k2, k3, k4, k5, k6⟩ := gn
  have hv : ∀ {q : SMatch} (oq : Ok q), (asksB q 2 = true → hasP q.src c.h.src = true) → (asksB q 4 = true → hasP q.dst c.h.dst = true) → kv c.h.src.v6 q = true := fun oq a2 a4 =>
    (kv_iff oq _).2 ⟨fun k => ((hasP_iff _ _).1 (a2 k)).2.2.1.symm, fun k => (((hasP_iff _ _).1 (a4 k)).2.2.1.symm).trans u3.symm⟩
  have hi : (c.in_.toNat : Int) = c.in_ := by omega
  refine (apart_parts hm hn).2 ⟨both_no fun q1 q2 => ?_, (aa_iff m n).2 ⟨⟨c.h.src.v6, hv om g3 g4, hv on k3 k4⟩, both_no fun q1 q2 => ?_, both_no fun q1 q2 => ?_⟩, both_no fun q1 q2 => ?_, both_no fun q1 q2 => not_unlike (g5 q1) (k5 q2), both_no fun q1 q2 => not_unlike (g6 q1) (k6 q2)⟩
  · have a := g1 q1
    have b := k1 q2
    rw [← hi] at a b
    exact not_unlike a b
  · rw [meet_of (g3 q1) (k3 q2)]; rfl
  · rw [meet_of (g4 q1) (k4 q2)]; rfl
  · exact decide_eq_false (fun k => k ((g2 q1).symm.trans (k2 q2)))
theorem pick_both {qm qn : Bool} {a b : SPrefix} {v : Bool} (am : qm = false → a = ePrefix.zero) (an : qn = false → b = ePrefix.zero) (vm : qm = true → a.addr.v6 = v) (vn : qn = true → b.addr.v6 = v) (cm : qm = true → checkP a = 0) (cn : qn = true → checkP b = 0) (h : (qm && qn && !meetB a b) = false) :
    checkA (pickP a b v) = 0 ∧ (pickP a b v).v6 = v ∧ (qm = true → hasP a (pickP a b v) = true) ∧ (qn = true → hasP b (pickP a b v) = true) := by
  have zb : (ePrefix.zero : SPrefix).bits = 0 := rfl
  have za : (ePrefix.zero : SPrefix).addr = ⟨false, Vector.replicate 16 0⟩ := rfl
  cases qm with
  | true =>
    have ca := cm rfl
    have va := vm rfl
    obtain ⟨a0, _, _⟩ := (checkP_zero a).1 ca
    cases qn with
    | true =>
      have cb := cn rfl
      have vb := vn rfl
      have hmt : meetB a b = true := by simpa using h
      unfold meetB at hmt
      rw [Bool.or_eq_true] at hmt
      unfold pickP
      by_cases hl : b.bits ≤ a.bits
      · rw [if_pos ⟨va, hl⟩]
        refine ⟨checkP_addr a ca, va, fun _ => (Sub.refl ca).has, fun _ => ?_⟩
        rcases hmt with k | k
        · exact hasP_trans ca ((Sub.refl cb).has) k hl
        · exact k
      · rw [if_neg (fun k => hl k.2), if_pos vb]
        refine ⟨checkP_addr b cb, vb, fun _ => ?_, fun _ => (Sub.refl cb).has⟩
        rcases hmt with k | k
        · exact k
        · exact hasP_trans cb ((Sub.refl ca).has) k (by omega)
    | false =>
      have hl : b.bits ≤ a.bits := by rw [an rfl, zb]; exact a0
      unfold pickP
      rw [if_pos ⟨va, hl⟩]
      exact ⟨checkP_addr a ca, va, fun _ => (Sub.refl ca).has, fun k => by cases k⟩
  | false =>
    have ea := am rfl
    cases qn with
    | true =>
      have cb := cn rfl
      have vb := vn rfl
      obtain ⟨b0, _, _⟩ := (checkP_zero b).1 cb
      unfold pickP
      by_cases hl : a.addr.v6 = v ∧ b.bits ≤ a.bits
      · rw [if_pos hl]
        have hb0 : b.bits = 0 := by
          have := hl.2
          rw [ea, zb] at this
          omega
        refine ⟨by rw [ea, za]; exact zeroA false, hl.1, fun k => (by cases k), fun _ => (hasP_iff _ _).2 ⟨cb, by rw [ea, za]; exact zeroA false, hl.1.trans vb.symm, fun i i0 i1 => by omega⟩⟩
      · rw [if_neg hl, if_pos vb]
        exact ⟨checkP_addr b cb, vb, fun k => (by cases k), fun _ => (Sub.refl cb).has⟩
    | false =>
      have eb := an rfl
      subst ea
      subst eb
      cases v
      · exact ⟨zeroA false, rfl, fun k => (by cases k), fun k => (by cases k)⟩
      · exact ⟨zeroA true, rfl, fun k => (by cases k), fun k => (by cases k)⟩
theorem max16 (a b : UInt16) : (max a b).toNat = max a.toNat b.toNat := by
  show (if a ≤ b then b else a).toNat = _
  split <;> rename_i h <;> rw [u16le] at h <;> omega
theorem span_both {qm qn : Bool} {a b : SSpan} (am : qm = false → a = eSpan.zero) (an : qn = false → b = eSpan.zero) (ha : a.from_ ≤ a.to_) (hb : b.from_ ≤ b.to_) (h : (qm && qn && unlikeB a b) = false) :
    (qm = true → withinB a (max a.from_ b.from_).toNat = true) ∧ (qn = true → withinB b (max a.from_ b.from_).toNat = true) := by
  rw [u16le] at ha hb
  have z1 : (eSpan.zero : SSpan).from_.toNat = 0 := rfl
  unfold withinB
  rw [max16]
  cases qm with
  | true =>
    cases qn with
    | true =>
      have hu : unlikeB a b = false := by simpa using h
      unfold unlikeB at hu
      rw [Bool.or_eq_false_iff] at hu
      have h1 := of_decide_eq_false hu.1
      have h2 := of_decide_eq_false hu.2
      rw [u16lt] at h1 h2
      simp only [Bool.and_eq_true, decide_eq_true_eq]
      exact ⟨fun _ => by omega, fun _ => by omega⟩
    | false =>
      have eb := an rfl
      subst eb
      simp only [Bool.and_eq_true, decide_eq_true_eq]
      exact ⟨fun _ => by omega, fun k => (by cases k)⟩
  | false =>
    have ea := am rfl
    subst ea
    simp only [Bool.and_eq_true, decide_eq_true_eq]
    exact ⟨fun k => (by cases k), fun _ => by omega⟩
theorem max8 (a b : UInt8) : max a b = if a ≤ b then b else a := rfl
/-- Where Apart says no, a packet of the list meets both. -/
theorem apart_wit {m n : SMatch} (hm : okM m = true) (hn : okM n = true) (hc : apartM m n = false) : ∃ c ∈ cornersL m n, Good19 n c ∧ metB m c.in_ c.h = true := by
  have om := Ok2.of hm
  have on := Ok2.of hn
  obtain ⟨p1, p2, p3, p4, p5⟩ := (apart_parts hm hn).1 hc
  obtain ⟨⟨v, w1, w2⟩, ps, pd⟩ := (aa_iff m n).1 p2
  obtain ⟨m1, m2⟩ := (kv_iff om.toOk v).1 w1
  obtain ⟨n1, n2⟩ := (kv_iff on.toOk v).1 w2
  obtain ⟨s1, s2, s3, s4⟩ := pick_both om.src on.src m1 n1 om.csrc on.csrc ps
  obtain ⟨d1, d2, d3, d4⟩ := pick_both om.dst on.dst m2 n2 om.cdst on.cdst pd
  obtain ⟨i1, i2⟩ := span_both om.in_ on.in_ om.oin.1 on.oin.1 p1
  obtain ⟨q1, q2⟩ := span_both om.srcPort on.srcPort om.osp on.osp p4
  obtain ⟨r1, r2⟩ := span_both om.dstPort on.dstPort om.odp on.odp p5
  have hpr : (asksB m 8 = true → max m.proto n.proto = m.proto) ∧ (asksB n 8 = true → max m.proto n.proto = n.proto) := by
    cases hm8 : asksB m 8 with
    | true =>
      cases hn8 : asksB n 8 with
      | true =>
        rw [hm8, hn8] at p3
        have e : m.proto = n.proto := by simpa using p3
        rw [e, max_same8]
        exact ⟨fun _ => rfl, fun _ => rfl⟩
      | false =>
        rw [on.proto hn8]
        refine ⟨fun _ => ?_, fun k => (by cases k)⟩
        rw [max8]
        split
        · rename_i k
          rw [UInt8.le_iff_toNat_le] at k
          have z : (0 : UInt8).toNat = 0 := rfl
          apply UInt8.toNat_inj.1
          omega
        · rfl
    | false =>
      rw [om.proto hm8]
      refine ⟨fun k => (by cases k), fun _ => ?_⟩
      rw [max8]
      split
      · rfl
      · rename_i k
        rw [UInt8.le_iff_toNat_le] at k
        have z : (0 : UInt8).toNat = 0 := rfl
        omega
  have hports : (max m.proto n.proto = 6 ∨ max m.proto n.proto = 17) ∨ (max m.srcPort.from_ n.srcPort.from_ = 0 ∧ max m.dstPort.from_ n.dstPort.from_ = 0) := by
    by_cases km : asksB m 16 = true ∨ asksB m 32 = true
    · obtain ⟨g1, g2⟩ := good3_of_ok hm km
      rw [hpr.1 g1]
      exact .inl g2
    · by_cases kn : asksB n 16 = true ∨ asksB n 32 = true
      · obtain ⟨g1, g2⟩ := good3_of_ok hn kn
        rw [hpr.2 g1]
        exact .inl g2
      · right
        have f : ∀ {x : Bool} {p : Prop}, ¬ (x = true ∨ p) → x = false := fun {x} {p} h => by cases x; rfl; exact absurd (.inl rfl) h
        have f2 : ∀ {x : Bool} {p : Prop}, ¬ (p ∨ x = true) → x = false := fun {x} {p} h => by cases x; rfl; exact absurd (.inr rfl) h
        rw [om.srcPort (f km), om.dstPort (f2 km), on.srcPort (f kn), on.dstPort (f2 kn)]
        exact ⟨rfl, rfl⟩
  have o1 := om.oin
  have o2 := on.oin
  rw [u16le, u16le] at o1 o2
  have e255 : UInt16.toNat 255 = 255 := rfl
  have hin := max16 m.in_.from_ n.in_.from_
  have u : (0 : Int) ≤ (baseM m n v).in_ ∧ (baseM m n v).in_ ≤ 255 := by
    show (0 : Int) ≤ ((max m.in_.from_ n.in_.from_).toNat : Int) ∧ ((max m.in_.from_ n.in_.from_).toNat : Int) ≤ 255
    omega
  have U : 0 ≤ (baseM m n v).in_ ∧ (baseM m n v).in_ ≤ 255 ∧ (baseM m n v).h.src.v6 = (baseM m n v).h.dst.v6 ∧ hasP (zP (baseM m n v).h.src.v6) (baseM m n v).h.src = true ∧ hasP (zP (baseM m n v).h.dst.v6) (baseM m n v).h.dst = true ∧ (((baseM m n v).h.proto = 6 ∨ (baseM m n v).h.proto = 17) ∨ ((baseM m n v).h.srcPort = 0 ∧ (baseM m n v).h.dstPort = 0)) :=
    ⟨u.1, u.2, s2.trans d2.symm, hasP_zP s1 _ rfl, hasP_zP d1 _ rfl, hports⟩
  exact ⟨_, (mem_base m n v).1, (good_iff n _).2 ⟨U, i2, hpr.2, s4, d4, q2, r2⟩, ((good_iff m _).2 ⟨U, i1, hpr.1, s3, d3, q1, r1⟩).2⟩
/-- What RuleWitness asks. -/
theorem witness_law {m n : SMatch} (hm : okM m = true) (hn : okM n = true) :
    coversM m n = !(cornersL m n).any (fun c => usualB c && metB n c.in_ c.h && !metB m c.in_ c.h) ∧ apartM m n = !(cornersL m n).any (fun c => usualB c && metB n c.in_ c.h && metB m c.in_ c.h) := by
  constructor
  · cases hc : coversM m n with
    | false =>
      obtain ⟨c, h1, h2, h3⟩ := covers_wit hm hn hc
      have : (cornersL m n).any (fun c => usualB c && metB n c.in_ c.h && !metB m c.in_ c.h) = true := List.any_eq_true.2 ⟨c, h1, by rw [h2.1, h2.2, h3]; rfl⟩
      rw [this]
      rfl
    | true =>
      have : (cornersL m n).any (fun c => usualB c && metB n c.in_ c.h && !metB m c.in_ c.h) = false := List.any_eq_false.2 (fun c _ => by
        cases h1 : usualB c with
        | false => simp
        | true =>
          cases h2 : metB n c.in_ c.h with
          | false => simp
          | true => rw [covers_sound hm hn hc h1 h2]; simp)
      rw [this]
      rfl
  · cases hc : apartM m n with
    | false =>
      obtain ⟨c, h1, h2, h3⟩ := apart_wit hm hn hc
      have : (cornersL m n).any (fun c => usualB c && metB n c.in_ c.h && metB m c.in_ c.h) = true := List.any_eq_true.2 ⟨c, h1, by rw [h2.1, h2.2, h3]; rfl⟩
      rw [this]
      rfl
    | true =>
      have : (cornersL m n).any (fun c => usualB c && metB n c.in_ c.h && metB m c.in_ c.h) = false := List.any_eq_false.2 (fun c _ => by
        cases h1 : usualB c with
        | false => simp
        | true =>
          cases h2 : metB n c.in_ c.h with
          | false => simp
          | true =>
            cases h3 : metB m c.in_ c.h with
            | false => simp
            | true =>
              rw [apart_sound hm hn ⟨h1, h2⟩ h3] at hc
              cases hc)
      rw [this]
      rfl
end Go.Proofs.Ytkmdhmfgbgngeaa
