/- rule -/
import Derived.Test.YtkmdhmfgbgngeaaR6
set_option linter.unusedVariables false
set_option linter.unusedSimpArgs false
namespace Go.Proofs.Ytkmdhmfgbgngeaa
open Go Go.Gx

structure Ok (m : SMatch) : Prop where
  in_ : asksB m 1 = false → m.in_ = eSpan.zero
  src : asksB m 2 = false → m.src = ePrefix.zero
  dst : asksB m 4 = false → m.dst = ePrefix.zero
  proto : asksB m 8 = false → m.proto = 0
  srcPort : asksB m 16 = false → m.srcPort = eSpan.zero
  dstPort : asksB m 32 = false → m.dstPort = eSpan.zero
  csrc : asksB m 2 = true → checkP m.src = 0
  cdst : asksB m 4 = true → checkP m.dst = 0
  same : asksB m 2 = true → asksB m 4 = true → m.src.addr.v6 = m.dst.addr.v6
theorem Ok.of {m : SMatch} (h : okM m = true) : Ok m := by
  unfold okM bad0 bad2 at h
  simp at h
  obtain ⟨⟨⟨h0, _⟩, h2⟩, _⟩ := h
  have r : ∀ {x : Bool} {p : Prop}, (x = true ∨ p) → x = false → p := fun h e => h.resolve_left (by rw [e]; simp)
  have q : ∀ {x : Bool} {p : Prop}, (x = false ∨ p) → x = true → p := fun h e => h.resolve_left (by rw [e]; simp)
  exact ⟨r h0.1.1.1.1.1.2, r h0.1.1.1.1.2, r h0.1.1.1.2, r h0.1.1.2, r h0.1.2, r h0.2, q h2.1.1, q h2.1.2, fun e1 e2 => by simpa [e1, e2] using h2.2⟩
theorem spanned_eq (m n : SMatch) (w : UInt8) (a b : SSpan) (top : UInt16) (h : asksB n w = false → b = eSpan.zero) : spannedB m n w a b top = spansR (asksB m w) a (asksB n w) b top := by
  unfold spannedB spansR everyB
  cases hn : asksB n w with
  | true => rfl
  | false =>
    rw [h hn]
    rfl
theorem kI_eq {n : SMatch} (h : Ok n) : kI n = (bif k4R n then 1 else 0) + (bif k6R n then 2 else 0) ∧ (k4R n || k6R n) = true := by
  have hs := h.same
  unfold kI k4R k6R kst
  cases h2 : asksB n 2 <;> cases h4 : asksB n 4 <;> cases h5 : n.src.addr.v6 <;> cases h6 : n.dst.addr.v6 <;> simp_all
theorem zeroA (v : Bool) : checkA ⟨v, Vector.replicate 16 0⟩ = 0 := (checkA_zero _).2 (fun i h0 h1 => by
  have hw := wd_le ⟨v, Vector.replicate 16 0⟩
  unfold bitU
  have e : (Vector.replicate 16 (0 : UInt8)).toList.getD (i / 8).toNat 0 = 0 := by
    rw [vec_getD _ _ (by omega)]
    simp
  rw [e]
  apply UInt8.toNat_inj.1
  rw [UInt8.toNat_and, toNat_shr8]
  simp)
theorem hasP_zero (a : SPrefix) (v : Bool) (hc : checkP a = 0) (h0 : a.bits = 0) : hasP a ⟨v, Vector.replicate 16 0⟩ = decide (v = a.addr.v6) := by
  rw [Bool.eq_iff_iff, hasP_iff, decide_eq_true_iff]
  exact ⟨fun h => h.2.2.1, fun h => ⟨hc, zeroA v, h, fun i h1 h2 => by omega⟩⟩
theorem prefixed_eq (m n : SMatch) (w : UInt8) (a b : SPrefix) (hn : Ok n) (ha : asksB m w = true → checkP a = 0) (hb : asksB n w = true → checkP b = 0) :
    prefixedB m n w a b = ((!k4R n || prefixesR (asksB m w) a (asksB n w) b false) && (!k6R n || prefixesR (asksB m w) a (asksB n w) b true)) := by
  obtain ⟨hk, hne⟩ := kI_eq hn
  unfold prefixedB prefixesR
  cases hm : asksB m w with
  | false => simp
  | true =>
    cases hw : asksB n w with
    | true =>
      have := hb hw
      unfold coversP
      rw [this]
      cases h4 : k4R n <;> cases h6 : k6R n <;> simp_all
    | false =>
      have hc := ha hm
      have hp := ((checkP_zero a).1 hc).1
      by_cases h0 : a.bits = 0
      · simp only [cond_false, cond_true, Bool.not_true, Bool.false_or, hasP_zero a _ hc h0, h0]
        rw [hk]
        cases h4 : k4R n <;> cases h6 : k6R n <;> cases h5 : a.addr.v6 <;> simp_all
      · have h1 : ¬ a.bits ≤ 0 := by omega
        simp only [cond_false, cond_true, Bool.not_true, Bool.false_or, h0, h1, decide_false, Bool.false_and]
        cases h4 : k4R n <;> cases h6 : k6R n <;> simp_all
theorem covers_eq (m n : SMatch) : coversM m n = coversR m n := by
  unfold coversM coversR
  cases hm : okM m with
  | false => rfl
  | true =>
    cases hn : okM n with
    | false => rfl
    | true =>
      have om := Ok.of hm
      have on := Ok.of hn
      rw [spanned_eq m n 1 _ _ _ on.in_, spanned_eq m n 16 _ _ _ on.srcPort, spanned_eq m n 32 _ _ _ on.dstPort, prefixed_eq m n 2 _ _ on om.csrc on.csrc, prefixed_eq m n 4 _ _ on om.cdst on.cdst]
      unfold pfx
      generalize prefixesR (asksB m 2) m.src (asksB n 2) n.src false = p1
      generalize prefixesR (asksB m 2) m.src (asksB n 2) n.src true = p2
      generalize prefixesR (asksB m 4) m.dst (asksB n 4) n.dst false = p3
      generalize prefixesR (asksB m 4) m.dst (asksB n 4) n.dst true = p4
      generalize spansR (asksB m 1) m.in_ (asksB n 1) n.in_ 255 = s1
      generalize spansR (asksB m 16) m.srcPort (asksB n 16) n.srcPort 65535 = s2
      generalize spansR (asksB m 32) m.dstPort (asksB n 32) n.dstPort 65535 = s3
      generalize (asksB m 8 && (!asksB n 8 || decide ¬m.proto = n.proto)) = q
      cases k4R n <;> cases k6R n <;> cases s1 <;> cases q <;> cases p1 <;> cases p2 <;> simp [Bool.and_assoc]
theorem both_eq (m n : SMatch) (w : UInt8) (h : w ∈ ([1, 2, 4, 8, 16, 32] : List UInt8)) : both2 m n w = (asksB m w && asksB n w) := by
  have one : ∀ w ∈ ([1, 2, 4, 8, 16, 32] : List UInt8), ∀ n : Fin 256, (UInt8.ofNat n.val &&& w = 0 ∨ UInt8.ofNat n.val &&& w = w) ∧ ¬ w = 0 := by
    intro w hw n
    have h : ∀ w ∈ ([1, 2, 4, 8, 16, 32] : List UInt8), ∀ n : Fin 256, (decide (UInt8.ofNat n.val &&& w = 0) || decide (UInt8.ofNat n.val &&& w = w)) && !decide (w = 0) := by decide +kernel
    simpa using h w hw n
  have hx := one w h ⟨m.asks.toNat, m.asks.toNat_lt⟩
  have hy := one w h ⟨n.asks.toNat, n.asks.toNat_lt⟩
  simp only [UInt8.ofNat_toNat] at hx hy
  unfold both2 asksB
  have e : m.asks &&& n.asks &&& w = (m.asks &&& w) &&& (n.asks &&& w) := by
    apply UInt8.toNat_inj.1
    simp only [UInt8.toNat_and]
    apply Nat.eq_of_testBit_eq
    intro i
    simp only [Nat.testBit_and]
    cases m.asks.toNat.testBit i <;> cases n.asks.toNat.testBit i <;> cases w.toNat.testBit i <;> rfl
  rw [e]
  have z0 : ∀ x : UInt8, 0 &&& x = 0 := fun x => by apply UInt8.toNat_inj.1; simp
  have z1 : ∀ x : UInt8, x &&& 0 = 0 := fun x => by apply UInt8.toNat_inj.1; simp
  have z2 : w &&& w = w := by apply UInt8.toNat_inj.1; simp
  rcases hx.1 with h1 | h1 <;> rcases hy.1 with h2 | h2 <;> rw [h1, h2] <;> simp [z0, z1, z2, hx.2]
theorem meet_eq (p q : SPrefix) (hp : checkP p = 0) (hq : checkP q = 0) : (!coversP p q && !coversP q p) = !meetB p q := by
  have hap := checkP_addr p hp
  have haq := checkP_addr q hq
  have h1 : (coversP p q || coversP q p) = meetB p q := by
    unfold coversP meetB
    rw [hp, hq]
    rw [Bool.eq_iff_iff]
    simp only [decide_true, Bool.true_and, Bool.or_eq_true, Bool.and_eq_true, decide_eq_true_eq]
    constructor
    · rintro (h | h)
      · exact .inl h.2
      · exact .inr h.2
    · intro h
      have sym : ∀ p q : SPrefix, checkP p = 0 → checkP q = 0 → checkA p.addr = 0 → q.bits ≤ p.bits → hasP p q.addr = true → hasP q p.addr = true := fun p q hp hq hap hle h => by
        obtain ⟨_, _, g3, g4⟩ := (hasP_iff p q.addr).1 h
        exact (hasP_iff q p.addr).2 ⟨hq, hap, g3.symm, fun i h0 h1 => (g4 i h0 (by omega)).symm⟩
      rcases Int.le_total p.bits q.bits with hle | hle
      · left
        refine ⟨hle, ?_⟩
        rcases h with h | h
        · exact h
        · exact sym q p hq hp haq hle h
      · right
        refine ⟨hle, ?_⟩
        rcases h with h | h
        · exact sym p q hp hq hap hle h
        · exact h
  rw [← h1]
  simp
theorem apart_eq (m n : SMatch) : apartM m n = apartR m n := by
  unfold apartM apartR
  cases hm : okM m with
  | false => rfl
  | true =>
    cases hn : okM n with
    | false => rfl
    | true =>
      have om := Ok.of hm
      have on := Ok.of hn
      obtain ⟨hk1, _⟩ := kI_eq om
      obtain ⟨hk2, _⟩ := kI_eq on
      have hk : decide (((kI m &&& kI n : Nat) : Int) = 0) = !((k4R m && k4R n) || (k6R m && k6R n)) := by
        rw [hk1, hk2]
        cases k4R m <;> cases k6R m <;> cases k4R n <;> cases k6R n <;> decide
      have hsrc : (both2 m n 2 && !coversP m.src n.src && !coversP n.src m.src) = (asksB m 2 && asksB n 2 && !meetB m.src n.src) := by
        rw [both_eq m n 2 (by decide)]
        cases h2 : asksB m 2 <;> cases h3 : asksB n 2 <;> simp only [Bool.false_and, Bool.and_false, Bool.true_and]
        exact meet_eq _ _ (om.csrc h2) (on.csrc h3)
      have hdst : (both2 m n 4 && !coversP m.dst n.dst && !coversP n.dst m.dst) = (asksB m 4 && asksB n 4 && !meetB m.dst n.dst) := by
        rw [both_eq m n 4 (by decide)]
        cases h2 : asksB m 4 <;> cases h3 : asksB n 4 <;> simp only [Bool.false_and, Bool.and_false, Bool.true_and]
        exact meet_eq _ _ (om.cdst h2) (on.cdst h3)
      rw [hk, hsrc, hdst, both_eq m n 1 (by decide), both_eq m n 8 (by decide), both_eq m n 16 (by decide), both_eq m n 32 (by decide)]
      simp only [Bool.true_and]
      ac_rfl
end Go.Proofs.Ytkmdhmfgbgngeaa
