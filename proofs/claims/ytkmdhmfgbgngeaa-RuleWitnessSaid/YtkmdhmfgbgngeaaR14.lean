/- rule -/
import Derived.Test.YtkmdhmfgbgngeaaR12
set_option linter.unusedVariables false
set_option linter.unusedSimpArgs false
namespace Go.Proofs.Ytkmdhmfgbgngeaa
open Go Go.Gx

structure Ok2 (m : SMatch) : Prop extends Ok m where
  oin : m.in_.from_ ≤ m.in_.to_ ∧ m.in_.to_ ≤ 255
  osp : m.srcPort.from_ ≤ m.srcPort.to_
  odp : m.dstPort.from_ ≤ m.dstPort.to_
theorem Ok2.of {m : SMatch} (h : okM m = true) : Ok2 m := by
  refine ⟨Ok.of h, ?_, ?_, ?_⟩ <;> (unfold okM bad1 at h; simp at h)
  · exact ⟨h.1.1.2.1.1.1, h.1.1.2.1.1.2⟩
  · exact h.1.1.2.1.2
  · exact h.1.1.2.2
theorem u16le {x y : UInt16} : x ≤ y ↔ x.toNat ≤ y.toNat := UInt16.le_iff_toNat_le
theorem u16lt {x y : UInt16} : x < y ↔ x.toNat < y.toNat := UInt16.lt_iff_toNat_lt
theorem spans_refl (p : Bool) (a : SSpan) (t : UInt16) : spansR p a p a t = true := by
  unfold spansR
  cases p <;> simp [u16le]
theorem spans_trans (p q r : Bool) (a b c : SSpan) (t : UInt16) (hc : c.to_ ≤ t) (h1 : spansR p a q b t = true) (h2 : spansR q b r c t = true) : spansR p a r c t = true := by
  unfold spansR at *
  cases p <;> cases q <;> cases r <;> simp [u16le] at * <;> omega
theorem unlike_symm (a b : SSpan) : unlikeB a b = unlikeB b a := by unfold unlikeB; rw [Bool.or_comm]
theorem spans_apart (p q r : Bool) (a b c : SSpan) (t : UInt16) (hc : c.from_ ≤ c.to_) (ht : c.to_ ≤ t) (h1 : spansR p a q b t = true) (h2 : (p && r && unlikeB a c) = true) : (q && r && unlikeB b c) = true := by
  unfold spansR unlikeB at *
  cases p <;> cases q <;> cases r <;> simp [u16le, u16lt] at * <;> omega
theorem spans_no (p q : Bool) (a b : SSpan) (t : UInt16) (hb : b.from_ ≤ b.to_) (h1 : spansR p a q b t = true) : (p && q && unlikeB a b) = false := by
  unfold spansR unlikeB at *
  cases p <;> cases q <;> simp [u16le, u16lt] at * <;> omega
def zP (v : Bool) : SPrefix := ⟨⟨v, Vector.replicate 16 0⟩, 0⟩
def eP (one : Bool) (a : SPrefix) (v : Bool) : SPrefix := bif one then a else zP v
/-- The addresses of e lie in a. -/
structure Sub (a e : SPrefix) : Prop where
  le : a.bits ≤ e.bits
  has : hasP a e.addr = true
theorem pfx_iff (p : Bool) (a : SPrefix) (q : Bool) (b : SPrefix) (v : Bool) : prefixesR p a q b v = true ↔ (p = true → Sub a (eP q b v)) := by
  unfold prefixesR eP
  cases p
  · simp
  · constructor
    · intro h _
      simp only [Bool.not_true, Bool.false_or, Bool.and_eq_true, decide_eq_true_eq] at h
      exact ⟨h.1, h.2⟩
    · intro h
      obtain ⟨h1, h2⟩ := h rfl
      simp only [Bool.not_true, Bool.false_or, Bool.and_eq_true, decide_eq_true_eq]
      exact ⟨h1, h2⟩
theorem checkP_z (v : Bool) : checkP (zP v) = 0 := by
  refine (checkP_zero _).2 ⟨Int.le_refl _, ?_, fun i h0 h1 => ?_⟩
  · have := wd_le (zP v).addr
    show (0 : Int) ≤ _
    omega
  · have h := (checkA_zero _).1 (zeroA v)
    show bitU (Vector.replicate 16 (0 : UInt8)).toList i = 0
    unfold bitU
    have h0' : (0 : Int) ≤ i := h0
    have e : (Vector.replicate 16 (0 : UInt8)).toList.getD (i / 8).toNat 0 = 0 := by
      rw [vec_getD _ _ (by omega)]
      simp
    rw [e]
    apply UInt8.toNat_inj.1
    rw [UInt8.toNat_and, toNat_shr8]
    simp
theorem Sub.trans {a b c : SPrefix} (hc : checkA c.addr = 0) (h1 : Sub a b) (h2 : Sub b c) : Sub a c := by
  obtain ⟨g1, _, g3, g4⟩ := (hasP_iff _ _).1 h1.has
  obtain ⟨_, k2, k3, k4⟩ := (hasP_iff _ _).1 h2.has
  have l1 := h1.le
  have l2 := h2.le
  exact ⟨by omega, (hasP_iff _ _).2 ⟨g1, hc, k3.trans g3, fun i i0 i1 => (k4 i i0 (by omega)).trans (g4 i i0 i1)⟩⟩
theorem Sub.refl {a : SPrefix} (h : checkP a = 0) : Sub a a := ⟨Int.le_refl _, (hasP_iff _ _).2 ⟨h, checkP_addr a h, rfl, fun _ _ _ => rfl⟩⟩
theorem Sub.v6 {a e : SPrefix} (h : Sub a e) : e.addr.v6 = a.addr.v6 := ((hasP_iff _ _).1 h.has).2.2.1
theorem Sub.chk {a e : SPrefix} (h : Sub a e) : checkP a = 0 := ((hasP_iff _ _).1 h.has).1
/-- What is contained meets as its container does. -/
theorem Sub.meet {a b c : SPrefix} (h : Sub a b) (hc : checkP c = 0) (hm : meetB b c = true) : meetB a c = true := by
  obtain ⟨g1, g2, g3, g4⟩ := (hasP_iff _ _).1 h.has
  have l1 := h.le
  unfold meetB at *
  rw [Bool.or_eq_true] at hm ⊢
  rcases hm with hm | hm
  · left
    obtain ⟨k1, k2, k3, k4⟩ := (hasP_iff _ _).1 hm
    exact (hasP_iff _ _).2 ⟨g1, k2, k3.trans g3, fun i i0 i1 => (k4 i i0 (by omega)).trans (g4 i i0 i1)⟩
  · obtain ⟨k1, k2, k3, k4⟩ := (hasP_iff _ _).1 hm
    rcases Int.le_total a.bits c.bits with hle | hle
    · left
      exact (hasP_iff _ _).2 ⟨g1, checkP_addr c hc, k3.symm.trans g3, fun i i0 i1 => (k4 i i0 (by omega)).symm.trans (g4 i i0 i1)⟩
    · right
      exact (hasP_iff _ _).2 ⟨hc, checkP_addr a g1, g3.symm.trans k3, fun i i0 i1 => (g4 i i0 (by omega)).symm.trans (k4 i i0 i1)⟩
def kv (v : Bool) (m : SMatch) : Bool := bif v then k6R m else k4R m
theorem kv_iff {m : SMatch} (h : Ok m) (v : Bool) : kv v m = true ↔ (asksB m 2 = true → m.src.addr.v6 = v) ∧ (asksB m 4 = true → m.dst.addr.v6 = v) := by
  have hs := h.same
  unfold kv k4R k6R
  cases v <;> cases h2 : asksB m 2 <;> cases h4 : asksB m 4 <;> cases h5 : m.src.addr.v6 <;> cases h6 : m.dst.addr.v6 <;> simp_all
theorem ac_iff (m n : SMatch) : ((!k4R n || pfx m n false) && (!k6R n || pfx m n true)) = true ↔ ∀ v, kv v n = true → (asksB m 2 = true → Sub m.src (eP (asksB n 2) n.src v)) ∧ (asksB m 4 = true → Sub m.dst (eP (asksB n 4) n.dst v)) := by
  have key : ∀ v, pfx m n v = true ↔ (asksB m 2 = true → Sub m.src (eP (asksB n 2) n.src v)) ∧ (asksB m 4 = true → Sub m.dst (eP (asksB n 4) n.dst v)) := fun v => by
    unfold pfx
    rw [Bool.and_eq_true, pfx_iff, pfx_iff]
  rw [Bool.and_eq_true]
  constructor
  · rintro ⟨h1, h2⟩ v hv
    apply (key v).1
    cases v
    · have : k4R n = true := hv
      simpa [this] using h1
    · have : k6R n = true := hv
      simpa [this] using h2
  · intro h
    refine ⟨?_, ?_⟩
    · cases hk : k4R n with
      | false => rfl
      | true => simpa using (key false).2 (h false hk)
    · cases hk : k6R n with
      | false => rfl
      | true => simpa using (key true).2 (h true hk)
theorem eP_chk {q : Bool} {b : SPrefix} (h : q = true → checkP b = 0) (v : Bool) : checkP (eP q b v) = 0 := by
  unfold eP
  cases q
  · exact checkP_z v
  · exact h rfl
theorem eP_v6 {q : Bool} {b : SPrefix} {v : Bool} (h : q = true → b.addr.v6 = v) : (eP q b v).addr.v6 = v := by
  unfold eP
  cases q
  · rfl
  · exact h rfl
/-- What m covers of n, m has the kind of. -/
theorem kv_up {m n : SMatch} (om : Ok m) (on : Ok n) {v : Bool} (hv : kv v n = true) (h : (asksB m 2 = true → Sub m.src (eP (asksB n 2) n.src v)) ∧ (asksB m 4 = true → Sub m.dst (eP (asksB n 4) n.dst v))) : kv v m = true := by
  have hn := (kv_iff on v).1 hv
  refine (kv_iff om v).2 ⟨fun e => ?_, fun e => ?_⟩
  · rw [← (h.1 e).v6]; exact eP_v6 hn.1
  · rw [← (h.2 e).v6]; exact eP_v6 hn.2
theorem sub_step {p q r : Bool} {a b c : SPrefix} {v : Bool} (hb : q = true → checkP b = 0) (hc : r = true → checkP c = 0) (hv : r = true → c.addr.v6 = v) (h1 : p = true → Sub a (eP q b v)) (h2 : q = true → Sub b (eP r c v)) : p = true → Sub a (eP r c v) := fun hp => by
  have s1 := h1 hp
  cases q with
  | true => exact s1.trans (checkP_addr _ (eP_chk hc v)) (h2 rfl)
  | false =>
    have l : a.bits ≤ 0 := s1.le
    have g := (hasP_iff _ _).1 s1.has
    have hp0 := ((checkP_zero (eP r c v)).1 (eP_chk hc v)).1
    have e6 : (zP v).addr.v6 = a.addr.v6 := g.2.2.1
    have e7 : v = a.addr.v6 := e6
    exact ⟨by omega, (hasP_iff _ _).2 ⟨g.1, checkP_addr _ (eP_chk hc v), (eP_v6 hv).trans e7, fun i i0 i1 => by omega⟩⟩
theorem meet_step {p q r : Bool} {a b c : SPrefix} {v : Bool} (hc : r = true → checkP c = 0) (hv : r = true → c.addr.v6 = v) (h1 : p = true → Sub a (eP q b v)) (h2 : (q && r && !meetB b c) = false) : (p && r && !meetB a c) = false := by
  cases p with
  | false => rfl
  | true =>
    cases r with
    | false => rfl
    | true =>
      have s1 := h1 rfl
      simp only [Bool.true_and, Bool.not_eq_false']
      cases q with
      | true =>
        simp only [Bool.true_and, Bool.not_eq_false'] at h2
        exact s1.meet (hc rfl) h2
      | false =>
        have l : a.bits ≤ 0 := s1.le
        have g := (hasP_iff _ _).1 s1.has
        have e7 : v = a.addr.v6 := g.2.2.1
        unfold meetB
        rw [Bool.or_eq_true]
        left
        exact (hasP_iff _ _).2 ⟨g.1, checkP_addr c (hc rfl), (hv rfl).trans e7, fun i i0 i1 => by omega⟩
/-- The part of apart that asks addresses. -/
def aaB (m n : SMatch) : Bool := !((k4R m && k4R n) || (k6R m && k6R n)) || (asksB m 2 && asksB n 2 && !meetB m.src n.src) || (asksB m 4 && asksB n 4 && !meetB m.dst n.dst)
theorem aa_iff (m n : SMatch) : aaB m n = false ↔ (∃ v, kv v m = true ∧ kv v n = true) ∧ (asksB m 2 && asksB n 2 && !meetB m.src n.src) = false ∧ (asksB m 4 && asksB n 4 && !meetB m.dst n.dst) = false := by
  unfold aaB
  rw [Bool.or_eq_false_iff, Bool.or_eq_false_iff, Bool.not_eq_false', and_assoc]
  refine and_congr ?_ Iff.rfl
  rw [Bool.or_eq_true, Bool.and_eq_true, Bool.and_eq_true]
  constructor
  · rintro (h | h)
    · exact ⟨false, h.1, h.2⟩
    · exact ⟨true, h.1, h.2⟩
  · rintro ⟨v, h1, h2⟩
    cases v
    · exact .inl ⟨h1, h2⟩
    · exact .inr ⟨h1, h2⟩
def acB (m n : SMatch) : Bool := (!k4R n || pfx m n false) && (!k6R n || pfx m n true)
theorem ac_trans {m n o : SMatch} (om : Ok m) (on : Ok n) (oo : Ok o) (h1 : acB m n = true) (h2 : acB n o = true) : acB m o = true := by
  have h1 := (ac_iff m n).1 h1
  have h2 := (ac_iff n o).1 h2
  refine (ac_iff m o).2 (fun v hv => ?_)
  have g2 := h2 v hv
  have hvn := kv_up on oo hv g2
  have g1 := h1 v hvn
  have ho := (kv_iff oo v).1 hv
  exact ⟨sub_step on.csrc oo.csrc ho.1 g1.1 g2.1, sub_step on.cdst oo.cdst ho.2 g1.2 g2.2⟩
theorem ac_refl {m : SMatch} (om : Ok m) : acB m m = true := (ac_iff m m).2 (fun v hv => by
  refine ⟨fun e => ?_, fun e => ?_⟩
  · unfold eP
    rw [e]
    exact Sub.refl (om.csrc e)
  · unfold eP
    rw [e]
    exact Sub.refl (om.cdst e))
theorem aa_down {m n o : SMatch} (om : Ok m) (on : Ok n) (oo : Ok o) (h1 : acB m n = true) (h2 : aaB n o = false) : aaB m o = false := by
  have h1 := (ac_iff m n).1 h1
  obtain ⟨⟨v, v1, v2⟩, s1, s2⟩ := (aa_iff n o).1 h2
  have g1 := h1 v v1
  have ho := (kv_iff oo v).1 v2
  exact (aa_iff m o).2 ⟨⟨v, kv_up om on v1 g1, v2⟩, meet_step oo.csrc ho.1 g1.1 s1, meet_step oo.cdst ho.2 g1.2 s2⟩
theorem meet_self {a : SPrefix} (h : checkP a = 0) : meetB a a = true := by
  unfold meetB
  rw [(Sub.refl h).has]
  rfl
theorem aa_self {m : SMatch} (om : Ok m) : aaB m m = false := by
  obtain ⟨_, hk⟩ := kI_eq om
  refine (aa_iff m m).2 ⟨?_, ?_, ?_⟩
  · rw [Bool.or_eq_true] at hk
    rcases hk with hk | hk
    · exact ⟨false, hk, hk⟩
    · exact ⟨true, hk, hk⟩
  · cases e : asksB m 2
    · rfl
    · rw [meet_self (om.csrc e)]; rfl
  · cases e : asksB m 4
    · rfl
    · rw [meet_self (om.cdst e)]; rfl
theorem meet_comm (a b : SPrefix) : meetB a b = meetB b a := by unfold meetB; rw [Bool.or_comm]
theorem aa_symm (m n : SMatch) : aaB m n = aaB n m := by
  unfold aaB
  rw [meet_comm m.src, meet_comm m.dst, Bool.and_comm (k4R m), Bool.and_comm (k6R m), Bool.and_comm (asksB m 2), Bool.and_comm (asksB m 4)]

def cpB (m n : SMatch) : Bool := !(asksB m 8 && (!asksB n 8 || decide (¬ m.proto = n.proto)))
theorem covers_parts {m n : SMatch} (hm : okM m = true) (hn : okM n = true) : coversM m n = true ↔ spansR (asksB m 1) m.in_ (asksB n 1) n.in_ 255 = true ∧ acB m n = true ∧ cpB m n = true ∧ spansR (asksB m 16) m.srcPort (asksB n 16) n.srcPort 65535 = true ∧ spansR (asksB m 32) m.dstPort (asksB n 32) n.dstPort 65535 = true := by
  rw [covers_eq]
  unfold coversR
  rw [hm, hn]
  show (spansR _ _ _ _ _ && acB m n && cpB m n && (_ && _)) = true ↔ _
  simp only [Bool.and_eq_true, and_assoc]
theorem apart_parts {m n : SMatch} (hm : okM m = true) (hn : okM n = true) : apartM m n = false ↔ (asksB m 1 && asksB n 1 && unlikeB m.in_ n.in_) = false ∧ aaB m n = false ∧ (asksB m 8 && asksB n 8 && decide (¬ m.proto = n.proto)) = false ∧ (asksB m 16 && asksB n 16 && unlikeB m.srcPort n.srcPort) = false ∧ (asksB m 32 && asksB n 32 && unlikeB m.dstPort n.dstPort) = false := by
  rw [apart_eq]
  unfold apartR aaB
  rw [hm, hn]
  simp only [Bool.true_and, Bool.or_eq_false_iff]
  constructor
  · rintro ⟨⟨⟨⟨⟨⟨h1, h2⟩, h3⟩, h4⟩, h5⟩, h6⟩, h7⟩
    exact ⟨h1, ⟨⟨h2, h4⟩, h5⟩, h3, h6, h7⟩
  · rintro ⟨h1, ⟨⟨h2, h4⟩, h5⟩, h3, h6, h7⟩
    exact ⟨⟨⟨⟨⟨⟨h1, h2⟩, h3⟩, h4⟩, h5⟩, h6⟩, h7⟩
theorem u16_top (x : UInt16) : x ≤ 65535 := by
  rw [u16le]
  have := x.toNat_lt
  have e : UInt16.toNat 65535 = 65535 := rfl
  omega
theorem covers_refl {m : SMatch} (hm : okM m = true) : coversM m m = true := by
  refine (covers_parts hm hm).2 ⟨spans_refl _ _ _, ac_refl (Ok.of hm), ?_, spans_refl _ _ _, spans_refl _ _ _⟩
  unfold cpB
  cases asksB m 8 <;> simp
theorem covers_trans {m n o : SMatch} (hm : okM m = true) (hn : okM n = true) (ho : okM o = true) (h1 : coversM m n = true) (h2 : coversM n o = true) : coversM m o = true := by
  obtain ⟨a1, a2, a3, a4, a5⟩ := (covers_parts hm hn).1 h1
  obtain ⟨b1, b2, b3, b4, b5⟩ := (covers_parts hn ho).1 h2
  refine (covers_parts hm ho).2 ⟨spans_trans _ _ _ _ _ _ _ (Ok2.of ho).oin.2 a1 b1, ac_trans (Ok.of hm) (Ok.of hn) (Ok.of ho) a2 b2, ?_, spans_trans _ _ _ _ _ _ _ (u16_top _) a4 b4, spans_trans _ _ _ _ _ _ _ (u16_top _) a5 b5⟩
  unfold cpB at *
  cases h5 : asksB m 8 <;> cases h6 : asksB n 8 <;> cases h7 : asksB o 8 <;> simp_all
theorem apart_symm (m n : SMatch) : apartM m n = apartM n m := by
  rw [apart_eq, apart_eq]
  unfold apartR
  rw [Bool.and_comm (okM m), unlike_symm m.in_, unlike_symm m.srcPort, unlike_symm m.dstPort, meet_comm m.src, meet_comm m.dst, Bool.and_comm (k4R m), Bool.and_comm (k6R m), Bool.and_comm (asksB m 1), Bool.and_comm (asksB m 2), Bool.and_comm (asksB m 4), Bool.and_comm (asksB m 8), Bool.and_comm (asksB m 16), Bool.and_comm (asksB m 32)]
  have e : decide (¬ m.proto = n.proto) = decide (¬ n.proto = m.proto) := by
    rw [Bool.eq_iff_iff, decide_eq_true_iff, decide_eq_true_iff]
    exact ⟨fun h e => h e.symm, fun h e => h e.symm⟩
  rw [e]
theorem not_true_false {b : Bool} (h : b = true → False) : b = false := by cases b <;> simp_all
theorem apart_down {m n o : SMatch} (hm : okM m = true) (hn : okM n = true) (ho : okM o = true) (h1 : coversM m n = true) (h2 : apartM m o = true) : apartM n o = true := by
  obtain ⟨a1, a2, a3, a4, a5⟩ := (covers_parts hm hn).1 h1
  cases hh : apartM n o with
  | true => rfl
  | false =>
    exfalso
    obtain ⟨b1, b2, b3, b4, b5⟩ := (apart_parts hn ho).1 hh
    have k2 := Ok2.of ho
    have c : apartM m o = false := by
      refine (apart_parts hm ho).2 ⟨?_, aa_down (Ok.of hm) (Ok.of hn) (Ok.of ho) a2 b2, ?_, ?_, ?_⟩
      · exact not_true_false (fun h => by rw [spans_apart _ _ _ _ _ _ _ k2.oin.1 k2.oin.2 a1 h] at b1; cases b1)
      · unfold cpB at a3
        cases h5 : asksB m 8 <;> cases h6 : asksB n 8 <;> cases h7 : asksB o 8 <;> simp_all
      · exact not_true_false (fun h => by rw [spans_apart _ _ _ _ _ _ _ k2.osp (u16_top _) a4 h] at b4; cases b4)
      · exact not_true_false (fun h => by rw [spans_apart _ _ _ _ _ _ _ k2.odp (u16_top _) a5 h] at b5; cases b5)
    rw [c] at h2
    cases h2
theorem apart_self {m : SMatch} (hm : okM m = true) : apartM m m = false := by
  have k2 := Ok2.of hm
  refine (apart_parts hm hm).2 ⟨spans_no _ _ _ _ 255 k2.oin.1 (spans_refl _ _ _), aa_self (Ok.of hm), ?_, spans_no _ _ _ _ 65535 k2.osp (spans_refl _ _ _), spans_no _ _ _ _ 65535 k2.odp (spans_refl _ _ _)⟩
  cases asksB m 8 <;> simp
theorem apart_no {m n : SMatch} (hm : okM m = true) (hn : okM n = true) (h : coversM m n = true) : apartM m n = false :=
  not_true_false (fun h2 => by
    have := apart_down hm hn hn h h2
    rw [apart_self hn] at this
    cases this)
theorem covers_ok1 {m : SMatch} (h : okM m = false) : coversM m m = false := by unfold coversM; rw [h]; rfl

theorem RuleSets_walk (m n o : SMatch) (w : World) : Calls Try.prog 8 #[eMatch.val m, eMatch.val n, eMatch.val o] w (RetV w (.bool true)) := by
  refine enter0 99 Try.func8 rfl rfl (Nat.le_of_ble_eq_true rfl) ?_
  refine seq ?_
  refine region ?_
  refine cons (box (E := eMatch) (.t rfl) (fun b1 => ?_))
  refine cons (box (E := eMatch) (.t rfl) (fun b2 => ?_))
  refine cons (box (E := eMatch) (.t rfl) (fun b3 => ?_))
  refine cons (opv (Ev.assign (.c (v := .bool false) rfl)) ?_)
  refine nil ?_
  refine pN ?_
  refine seq ?_
  refine seq ?_
  refine region ?_
  refine cons (callv en15 .nil (fun w I => works_ok w) ?_)
  refine cons (opv (Ev.not (.t rfl)) ?_)
  refine nil ?_
  refine pN ?_
  first | refine condD rfl (fun h0 => ?_) (fun h0 => ?_) | refine cond rfl (fun h0 => ?_) (fun h0 => ?_)
  · simp at h0
  · refine skip ?_
    refine pN ?_
    refine seq ?_
    refine seq ?_
    refine region ?_
    refine cons (opv (Ev.load (xv := m) ty31 (.t rfl) (ptsVar (by repeat first | exact mH | apply mT | apply mA) (Lens.id _))) ?_)
    refine cons (callv en12 (.cons (.t rfl) .nil) (fun w I => check_ok _ w) ?_)
    refine cons (opv (Ev.to (v' := .bool (!okM m)) (Ev.neq_i (.t rfl) (.c (v := I 0) rfl)) (congrArg Value.bool (by rw [← ckM_zero]; simp))) ?_)
    refine cons (opv (Ev.move (.t rfl)) ?_)
    refine cons (opg rfl rfl (Ev.load (xv := n) ty31 (.t rfl) (ptsVar (by repeat first | exact mH | apply mT | apply mA) (Lens.id _))) ?_)
    refine cons (callg rfl rfl en12 (.cons (.g rfl id) .nil) (fun hg w I => check_ok _ w) ?_)
    refine cons (opg rfl rfl (Ev.to (v' := .bool (!okM n)) (Ev.neq_i (.g rfl id) (.c (v := I 0) rfl)) (congrArg Value.bool (by rw [← ckM_zero]; simp))) ?_)
    refine cons (opv (Ev.pickO (.t rfl) (.c (v := .bool true) rfl) (fun {_} h => by cases h; rfl) ⟨_, rfl⟩ (by intro h1 h; first | (rw [h] <;> rfl) | (rw [h1, h] <;> rfl) | (rw [h, h1] <;> rfl) | simp_all)) ?_)
    refine cons (opv (Ev.move (.t rfl)) ?_)
    refine cons (opg rfl rfl (Ev.load (xv := o) ty31 (.t rfl) (ptsVar (by repeat first | exact mH | apply mT | apply mA) (Lens.id _))) ?_)
    refine cons (callg rfl rfl en12 (.cons (.g rfl id) .nil) (fun hg w I => check_ok _ w) ?_)
    refine cons (opg rfl rfl (Ev.to (v' := .bool (!okM o)) (Ev.neq_i (.g rfl id) (.c (v := I 0) rfl)) (congrArg Value.bool (by rw [← ckM_zero]; simp))) ?_)
    refine cons (opv (Ev.pickO (.t rfl) (.c (v := .bool true) rfl) (fun {_} h => by cases h; rfl) ⟨_, rfl⟩ (by intro h1 h; first | (rw [h] <;> rfl) | (rw [h1, h] <;> rfl) | (rw [h, h1] <;> rfl) | simp_all)) ?_)
    refine nil ?_
    refine pN ?_
    first | refine condD rfl (fun h1 => ?_) (fun h1 => ?_) | refine cond rfl (fun h1 => ?_) (fun h1 => ?_)
    · refine seq ?_
      refine region ?_
      refine cons (opv (Ev.load (xv := m) ty31 (.t rfl) (ptsVar (by repeat first | exact mH | apply mT | apply mA) (Lens.id _))) ?_)
      refine cons (opv (Ev.load (xv := m) ty31 (.t rfl) (ptsVar (by repeat first | exact mH | apply mT | apply mA) (Lens.id _))) ?_)
      refine cons (callv en25 (.cons (.t rfl) (.cons (.t rfl) .nil)) (fun w I => covers_ok _ _ w) ?_)
      refine cons (opv (Ev.not (.t rfl)) ?_)
      refine cons (opv (Ev.move (.t rfl)) ?_)
      refine cons (opg rfl rfl (Ev.load (xv := m) ty31 (.t rfl) (ptsVar (by repeat first | exact mH | apply mT | apply mA) (Lens.id _))) ?_)
      refine cons (callg rfl rfl en12 (.cons (.g rfl id) .nil) (fun hg w I => check_ok _ w) ?_)
      refine cons (opg rfl rfl (Ev.to (v' := .bool (okM m)) (Ev.eql_i (.g rfl id) (.c (v := I 0) rfl)) (congrArg Value.bool (by rw [ckM_zero]))) ?_)
      refine cons (opv (Ev.pickO (.t rfl) (.c (v := .bool true) rfl) (fun {_} h => by cases h; rfl) ⟨_, rfl⟩ (by intro h1 h; first | (rw [h] <;> rfl) | (rw [h1, h] <;> rfl) | (rw [h, h1] <;> rfl) | simp_all)) ?_)
      refine cons (opv (Ev.assign (.t rfl)) ?_)
      refine nil ?_
      refine pN ?_
      refine ret ?_
      refine pR ?_
      refine done rfl (.tmp rfl .nil) (retE ?_)
      refine congrArg Value.bool ?_
      cases hm : okM m with
      | true => simp
      | false => rw [covers_ok1 hm]; rfl
    · refine skip ?_
      refine pN ?_
      refine seq ?_
      refine draw' (by kernel_rfl) ?_
      refine take 0 rfl (by kernel_rfl) (by kernel_rfl) (by kernel_rfl) (by repeat first | exact sR | exact sN | apply sC | apply sS | apply sA) (Ev.load (xv := m) ty31 (.t rfl) (ptsVar (by repeat first | exact mH | apply mT | apply mA) (Lens.id _))) ?_
      refine take 1 rfl (by kernel_rfl) (by kernel_rfl) (by kernel_rfl) (by repeat first | exact sR | exact sN | apply sC | apply sS | apply sA) (Ev.load (xv := n) ty31 (.t rfl) (ptsVar (by repeat first | exact mH | apply mT | apply mA) (Lens.id _))) ?_
      refine take 3 rfl (by kernel_rfl) (by kernel_rfl) (by kernel_rfl) (by repeat first | exact sR | exact sN | apply sC | apply sS | apply sA) (Ev.load (xv := n) ty31 (.t rfl) (ptsVar (by repeat first | exact mH | apply mT | apply mA) (Lens.id _))) ?_
      refine take 4 rfl (by kernel_rfl) (by kernel_rfl) (by kernel_rfl) (by repeat first | exact sR | exact sN | apply sC | apply sS | apply sA) (Ev.load (xv := o) ty31 (.t rfl) (ptsVar (by repeat first | exact mH | apply mT | apply mA) (Lens.id _))) ?_
      refine all [2] (by kernel_rfl) (by decide) (.cons rfl ?_ .nil)
      refine (callv en25 (.cons (.t rfl) (.cons (.t rfl) .nil)) (fun w I => covers_ok _ _ w) ?_)
      refine heldN_of (by repeat first | exact sR | exact sN | apply sC | apply sS | apply sA) ?_
      refine all [5] (by kernel_rfl) (by decide) (.cons rfl ?_ .nil)
      refine (callv en25 (.cons (.t rfl) (.cons (.t rfl) .nil)) (fun w I => covers_ok _ _ w) ?_)
      refine heldN_of (by repeat first | exact sR | exact sN | apply sC | apply sS | apply sA) ?_
      refine take 6 rfl (by kernel_rfl) (by kernel_rfl) (by kernel_rfl) (by repeat first | exact sR | exact sN | apply sC | apply sS | apply sA) (Ev.assign (.t rfl)) ?_
      refine take 7 rfl (by kernel_rfl) (by kernel_rfl) (by kernel_rfl) (by repeat first | exact sR | exact sN | apply sC | apply sS | apply sA) (Ev.assign (.t rfl)) ?_
      refine over (by kernel_rfl) ?_
      refine pN ?_
      refine seq ?_
      refine region ?_
      refine cons (opv (Ev.load (xv := m) ty31 (.t rfl) (ptsVar (by repeat first | exact mH | apply mT | apply mA) (Lens.id _))) ?_)
      refine cons (opv (Ev.load (xv := n) ty31 (.t rfl) (ptsVar (by repeat first | exact mH | apply mT | apply mA) (Lens.id _))) ?_)
      refine cons (callv en27 (.cons (.t rfl) (.cons (.t rfl) .nil)) (fun w I => apart_ok _ _ w) ?_)
      refine cons (opv (Ev.assign (.t rfl)) ?_)
      refine nil ?_
      refine pN ?_
      refine seq ?_
      refine region ?_
      refine cons (opv (Ev.load (xv := m) ty31 (.t rfl) (ptsVar (by repeat first | exact mH | apply mT | apply mA) (Lens.id _))) ?_)
      refine cons (opv (Ev.load (xv := m) ty31 (.t rfl) (ptsVar (by repeat first | exact mH | apply mT | apply mA) (Lens.id _))) ?_)
      refine cons (callv en25 (.cons (.t rfl) (.cons (.t rfl) .nil)) (fun w I => covers_ok _ _ w) ?_)
      refine cons (opv (Ev.move (.t rfl)) ?_)
      refine cons (opg rfl rfl (Ev.load (xv := m) ty31 (.t rfl) (ptsVar (by repeat first | exact mH | apply mT | apply mA) (Lens.id _))) ?_)
      refine cons (opg rfl rfl (Ev.load (xv := m) ty31 (.t rfl) (ptsVar (by repeat first | exact mH | apply mT | apply mA) (Lens.id _))) ?_)
      refine cons (callg rfl rfl en27 (.cons (.g rfl id) (.cons (.g rfl id) .nil)) (fun hg w I => apart_ok _ _ w) ?_)
      refine cons (opg rfl rfl (Ev.not (.g rfl id)) ?_)
      refine cons (opv (Ev.pickA (.t rfl) (fun {_} h => by cases h; rfl) ⟨_, rfl⟩ (by intro h1 h; first | (rw [h] <;> rfl) | (rw [h1, h] <;> rfl) | (rw [h, h1] <;> rfl) | simp_all) (.c (v := .bool false) rfl)) ?_)
      refine cons (opv (Ev.move (.t rfl)) ?_)
      refine cons (opg rfl rfl (Ev.move (.t rfl)) ?_)
      refine cons (opg rfl rfl (Ev.not (.g rfl id)) ?_)
      refine cons (opg rfl rfl (Ev.move (.g rfl id)) ?_)
      refine cons (opg rfl rfl (Ev.move (.t rfl)) ?_)
      refine cons (opg rfl rfl (Ev.not (.g rfl id)) ?_)
      refine cons (opg rfl rfl (Ev.pickO (.g rfl id) (.c (v := .bool true) rfl) (fun {_} h => by cases h; rfl) ⟨_, rfl⟩ (by intro h1 h; first | (rw [h] <;> rfl) | (rw [h1, h] <;> rfl) | (rw [h, h1] <;> rfl) | simp_all)) ?_)
      refine cons (opg rfl rfl (Ev.move (.g rfl id)) ?_)
      refine cons (opg rfl rfl (Ev.load (xv := m) ty31 (.t rfl) (ptsVar (by repeat first | exact mH | apply mT | apply mA) (Lens.id _))) ?_)
      refine cons (opg rfl rfl (Ev.load (xv := o) ty31 (.t rfl) (ptsVar (by repeat first | exact mH | apply mT | apply mA) (Lens.id _))) ?_)
      refine cons (callg rfl rfl en25 (.cons (.g rfl id) (.cons (.g rfl id) .nil)) (fun hg w I => covers_ok _ _ w) ?_)
      refine cons (opg rfl rfl (Ev.pickO (.g rfl id) (.c (v := .bool true) rfl) (fun {_} h => by cases h; rfl) ⟨_, rfl⟩ (by intro h1 h; first | (rw [h] <;> rfl) | (rw [h1, h] <;> rfl) | (rw [h, h1] <;> rfl) | simp_all)) ?_)
      refine cons (opv (Ev.pickA (.t rfl) (fun {_} h => by cases h; rfl) ⟨_, rfl⟩ (by intro h1 h; first | (rw [h] <;> rfl) | (rw [h1, h] <;> rfl) | (rw [h, h1] <;> rfl) | simp_all) (.c (v := .bool false) rfl)) ?_)
      refine cons (opv (Ev.move (.t rfl)) ?_)
      refine cons (opg rfl rfl (Ev.move (.t rfl)) ?_)
      refine cons (opg rfl rfl (Ev.load (xv := n) ty31 (.t rfl) (ptsVar (by repeat first | exact mH | apply mT | apply mA) (Lens.id _))) ?_)
      refine cons (opg rfl rfl (Ev.load (xv := m) ty31 (.t rfl) (ptsVar (by repeat first | exact mH | apply mT | apply mA) (Lens.id _))) ?_)
      refine cons (callg rfl rfl en27 (.cons (.g rfl id) (.cons (.g rfl id) .nil)) (fun hg w I => apart_ok _ _ w) ?_)
      refine cons (opg rfl rfl (Ev.eql_b Try.underlying4 (.g rfl id) (.g rfl id)) ?_)
      refine cons (opv (Ev.pickA (.t rfl) (fun {_} h => by cases h; rfl) ⟨_, rfl⟩ (by intro h1 h; first | (rw [h] <;> rfl) | (rw [h1, h] <;> rfl) | (rw [h, h1] <;> rfl) | simp_all) (.c (v := .bool false) rfl)) ?_)
      refine cons (opv (Ev.move (.t rfl)) ?_)
      refine cons (opg rfl rfl (Ev.move (.t rfl)) ?_)
      refine cons (opg rfl rfl (Ev.move (.g rfl id)) ?_)
      refine cons (opg rfl rfl (Ev.move (.t rfl)) ?_)
      refine cons (opg rfl rfl (Ev.move (.g rfl id)) ?_)
      refine cons (opg rfl rfl (Ev.load (xv := n) ty31 (.t rfl) (ptsVar (by repeat first | exact mH | apply mT | apply mA) (Lens.id _))) ?_)
      refine cons (opg rfl rfl (Ev.load (xv := m) ty31 (.t rfl) (ptsVar (by repeat first | exact mH | apply mT | apply mA) (Lens.id _))) ?_)
      refine cons (callg rfl rfl en25 (.cons (.g rfl id) (.cons (.g rfl id) .nil)) (fun hg w I => covers_ok _ _ w) ?_)
      refine cons (opg rfl rfl (Ev.pickO (.g rfl id) (.c (v := .bool true) rfl) (fun {_} h => by cases h; rfl) ⟨_, rfl⟩ (by intro h1 h; first | (rw [h] <;> rfl) | (rw [h1, h] <;> rfl) | (rw [h, h1] <;> rfl) | simp_all)) ?_)
      refine cons (opg rfl rfl (Ev.pickA (.g rfl id) (fun {_} h => by cases h; rfl) ⟨_, rfl⟩ (by intro h1 h; first | (rw [h] <;> rfl) | (rw [h1, h] <;> rfl) | (rw [h, h1] <;> rfl) | simp_all) (.c (v := .bool false) rfl)) ?_)
      refine cons (opg rfl rfl (Ev.not (.g rfl id)) ?_)
      refine cons (opv (Ev.pickA (.t rfl) (fun {_} h => by cases h; rfl) ⟨_, rfl⟩ (by intro h1 h; first | (rw [h] <;> rfl) | (rw [h1, h] <;> rfl) | (rw [h, h1] <;> rfl) | simp_all) (.c (v := .bool false) rfl)) ?_)
      refine cons (opv (Ev.move (.t rfl)) ?_)
      refine cons (opg rfl rfl (Ev.move (.t rfl)) ?_)
      refine cons (opg rfl rfl (Ev.move (.g rfl id)) ?_)
      refine cons (opg rfl rfl (Ev.load (xv := m) ty31 (.t rfl) (ptsVar (by repeat first | exact mH | apply mT | apply mA) (Lens.id _))) ?_)
      refine cons (opg rfl rfl (Ev.load (xv := o) ty31 (.t rfl) (ptsVar (by repeat first | exact mH | apply mT | apply mA) (Lens.id _))) ?_)
      refine cons (callg rfl rfl en27 (.cons (.g rfl id) (.cons (.g rfl id) .nil)) (fun hg w I => apart_ok _ _ w) ?_)
      refine cons (opg rfl rfl (Ev.pickA (.g rfl id) (fun {_} h => by cases h; rfl) ⟨_, rfl⟩ (by intro h1 h; first | (rw [h] <;> rfl) | (rw [h1, h] <;> rfl) | (rw [h, h1] <;> rfl) | simp_all) (.c (v := .bool false) rfl)) ?_)
      refine cons (opg rfl rfl (Ev.move (.g rfl id)) ?_)
      refine cons (opg rfl rfl (Ev.load (xv := n) ty31 (.t rfl) (ptsVar (by repeat first | exact mH | apply mT | apply mA) (Lens.id _))) ?_)
      refine cons (opg rfl rfl (Ev.load (xv := o) ty31 (.t rfl) (ptsVar (by repeat first | exact mH | apply mT | apply mA) (Lens.id _))) ?_)
      refine cons (callg rfl rfl en27 (.cons (.g rfl id) (.cons (.g rfl id) .nil)) (fun hg w I => apart_ok _ _ w) ?_)
      refine cons (opg rfl rfl (Ev.not (.g rfl id)) ?_)
      refine cons (opg rfl rfl (Ev.pickA (.g rfl id) (fun {_} h => by cases h; rfl) ⟨_, rfl⟩ (by intro h1 h; first | (rw [h] <;> rfl) | (rw [h1, h] <;> rfl) | (rw [h, h1] <;> rfl) | simp_all) (.c (v := .bool false) rfl)) ?_)
      refine cons (opg rfl rfl (Ev.not (.g rfl id)) ?_)
      refine cons (opv (Ev.pickA (.t rfl) (fun {_} h => by cases h; rfl) ⟨_, rfl⟩ (by intro h1 h; first | (rw [h] <;> rfl) | (rw [h1, h] <;> rfl) | (rw [h, h1] <;> rfl) | simp_all) (.c (v := .bool false) rfl)) ?_)
      refine cons (opv (Ev.assign (.t rfl)) ?_)
      refine nil ?_
      refine pN ?_
      refine ret ?_
      refine done rfl (.tmp rfl .nil) (retE ?_)
      have hok : okM m = true ∧ okM n = true ∧ okM o = true := by
        cases hm : okM m <;> cases hn : okM n <;> cases ho : okM o <;> simp_all
      obtain ⟨hm, hn, ho⟩ := hok
      have t1 := covers_refl hm
      have t2 := apart_self hm
      have t3 := @covers_trans m n o hm hn ho
      have t4 := apart_symm n m
      have t5 := @apart_no m n hm hn
      have t6 := @apart_no n m hn hm
      have t7 := @apart_down m n o hm hn ho
      refine congrArg Value.bool ?_
      rw [t4] at t6
      rw [t1, t2, t4]
      clear h1
      generalize coversM m n = c1 at *
      generalize coversM n o = c2 at *
      generalize coversM m o = c3 at *
      generalize coversM n m = c4 at *
      generalize apartM m n = p1 at *
      generalize apartM m o = p2 at *
      generalize apartM n o = p3 at *
      clear t1 t2 t4 hm hn ho
      revert t3 t5 t6 t7
      cases c1 <;> cases c2 <;> cases c3 <;> cases c4 <;> cases p1 <;> cases p2 <;> cases p3 <;> decide
end Go.Proofs.Ytkmdhmfgbgngeaa
