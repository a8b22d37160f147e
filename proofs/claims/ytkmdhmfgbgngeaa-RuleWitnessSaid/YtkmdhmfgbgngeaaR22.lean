/- rule -/
import Derived.Test.YtkmdhmfgbgngeaaR21
set_option linter.unusedVariables false
set_option linter.unusedSimpArgs false
namespace Go.Proofs.Ytkmdhmfgbgngeaa
open Go Go.Gx

theorem good3_of_ok {m : SMatch} (h : okM m = true) : (asksB m 16 = true ∨ asksB m 32 = true) → asksB m 8 = true ∧ (m.proto = 6 ∨ m.proto = 17) := by
  have h3 : good3 m = true := by
    unfold okM at h
    simp only [Bool.and_eq_true] at h
    exact h.2
  unfold good3 portsB at h3
  intro k
  rcases k with k | k <;> simp [k] at h3 <;> exact h3
/-- A usual packet that meets n. -/
def Good19 (n : SMatch) (c : SLaw19Came) : Prop := usualB c = true ∧ metB n c.in_ c.h = true
theorem good_iff (n : SMatch) (c : SLaw19Came) : Good19 n c ↔ (0 ≤ c.in_ ∧ c.in_ ≤ 255 ∧ c.h.src.v6 = c.h.dst.v6 ∧ hasP (zP c.h.src.v6) c.h.src = true ∧ hasP (zP c.h.dst.v6) c.h.dst = true ∧ ((c.h.proto = 6 ∨ c.h.proto = 17) ∨ (c.h.srcPort = 0 ∧ c.h.dstPort = 0))) ∧
    (asksB n 1 = true → withinB n.in_ c.in_ = true) ∧ (asksB n 8 = true → c.h.proto = n.proto) ∧ (asksB n 2 = true → hasP n.src c.h.src = true) ∧ (asksB n 4 = true → hasP n.dst c.h.dst = true) ∧ (asksB n 16 = true → withinB n.srcPort c.h.srcPort.toNat = true) ∧ (asksB n 32 = true → withinB n.dstPort c.h.dstPort.toNat = true) := by
  have q : ∀ (a b : Bool), (!a || b) = true ↔ (a = true → b = true) := by intro a b; cases a <;> simp
  unfold Good19 usualB
  rw [metB_eq]
  simp only [Bool.and_eq_true, Bool.or_eq_true, decide_eq_true_eq, and_assoc, q]
theorem met_in {m : SMatch} {i : Int} {h : SHeader} (h1 : asksB m 1 = true) (h2 : withinB m.in_ i = false) : metB m i h = false := by rw [metB_eq, h1, h2]; rfl
theorem met_pr {m : SMatch} {i : Int} {h : SHeader} (h1 : asksB m 8 = true) (h2 : h.proto ≠ m.proto) : metB m i h = false := by rw [metB_eq, h1, decide_eq_false h2]; simp
theorem met_sr {m : SMatch} {i : Int} {h : SHeader} (h1 : asksB m 2 = true) (h2 : hasP m.src h.src = false) : metB m i h = false := by rw [metB_eq, h1, h2]; simp
theorem met_ds {m : SMatch} {i : Int} {h : SHeader} (h1 : asksB m 4 = true) (h2 : hasP m.dst h.dst = false) : metB m i h = false := by rw [metB_eq, h1, h2]; simp
theorem met_sp {m : SMatch} {i : Int} {h : SHeader} (h1 : asksB m 16 = true) (h2 : withinB m.srcPort h.srcPort.toNat = false) : metB m i h = false := by rw [metB_eq, h1, h2]; simp
theorem met_dp {m : SMatch} {i : Int} {h : SHeader} (h1 : asksB m 32 = true) (h2 : withinB m.dstPort h.dstPort.toNat = false) : metB m i h = false := by rw [metB_eq, h1, h2]; simp
theorem mem_corner {m n : SMatch} {v : Bool} {b c : SLaw19Came} (hb : b ∈ basesL m n v) (hc : c ∈ edgesL b m n v) : c ∈ cornersL m n :=
  List.mem_flatMap.2 ⟨v, by cases v <;> simp, List.mem_flatMap.2 ⟨b, hb, hc⟩⟩
theorem mem_edge {m n : SMatch} {v : Bool} {c : SLaw19Came} (hc : c ∈ edge1 (baseM n n v) v n) : c ∈ cornersL m n :=
  mem_corner (b := baseM n n v) (by simp [basesL]) (List.mem_append_right _ (List.mem_flatMap.2 ⟨n, by simp, hc⟩))
theorem mem_base (m n : SMatch) (v : Bool) : baseM m n v ∈ cornersL m n ∧ baseM n n v ∈ cornersL m n :=
  ⟨mem_corner (v := v) (b := baseM m n v) (by simp [basesL]) (List.mem_append_left _ (by simp)), mem_corner (v := v) (b := baseM n n v) (by simp [basesL]) (List.mem_append_left _ (by simp))⟩
theorem mem_in {m n : SMatch} {v : Bool} {i : Int} (h : i ∈ insL n) : inE (baseM n n v) i ∈ cornersL m n := mem_edge (List.mem_append_left _ (List.mem_map.2 ⟨i, h, rfl⟩))
theorem mem_sp {m n : SMatch} {v : Bool} {p : UInt16} (h : p ∈ ptsLst n.srcPort) : spE (baseM n n v) p ∈ cornersL m n := mem_edge (List.mem_append_right _ (List.mem_append_left _ (List.mem_map.2 ⟨p, h, rfl⟩)))
theorem mem_dp {m n : SMatch} {v : Bool} {p : UInt16} (h : p ∈ ptsLst n.dstPort) : dpE (baseM n n v) p ∈ cornersL m n := mem_edge (List.mem_append_right _ (List.mem_append_right _ (List.mem_append_left _ (List.mem_map.2 ⟨p, h, rfl⟩))))
theorem mem_pr {m n : SMatch} {v : Bool} {p : UInt8} (h : p ∈ prsL n.proto) : prE (baseM n n v) p ∈ cornersL m n := mem_edge (List.mem_append_right _ (List.mem_append_right _ (List.mem_append_right _ (List.mem_append_left _ (List.mem_map.2 ⟨p, h, rfl⟩)))))
theorem mem_ad {m n : SMatch} {v : Bool} {p : SPrefix} {a : SAddr} (h : p ∈ pfsL n v) (hv : p.addr.v6 = v) (ha : a ∈ adsL p) : srE (baseM n n v) a ∈ cornersL m n ∧ dsE (baseM n n v) a ∈ cornersL m n := by
  have q : ∀ c ∈ adE (baseM n n v) a, c ∈ cornersL m n := fun c hc => mem_edge (List.mem_append_right _ (List.mem_append_right _ (List.mem_append_right _ (List.mem_append_right _ (List.mem_flatMap.2 ⟨p, h, by rw [pfE, if_pos hv]; exact List.mem_flatMap.2 ⟨a, ha, hc⟩⟩)))))
  exact ⟨q _ (by simp [adE]), q _ (by simp [adE])⟩
theorem max_same (a : UInt16) : max a a = a := by
  show (if a ≤ a then a else a) = a
  split <;> rfl
theorem max_same8 (a : UInt8) : max a a = a := by
  show (if a ≤ a then a else a) = a
  split <;> rfl
theorem pickP_same {one : Bool} {p : SPrefix} {v : Bool} (h0 : one = false → p = ePrefix.zero) (hv : one = true → p.addr.v6 = v) : pickP p p v = (eP one p v).addr := by
  unfold pickP eP
  cases one with
  | true =>
    rw [if_pos ⟨hv rfl, Int.le_refl _⟩]
    rfl
  | false =>
    rw [h0 rfl]
    cases v <;> rfl
theorem hasP_zP {a : SAddr} (h : checkA a = 0) (v : Bool) (hv : a.v6 = v) : hasP (zP v) a = true := (hasP_iff _ _).2 ⟨checkP_z v, h, hv, fun i h0 h1 => by
  have : (zP v).bits = 0 := rfl
  omega⟩
theorem within_from (s : SSpan) (h : s.from_ ≤ s.to_) : withinB s s.from_.toNat = true ∧ withinB s s.to_.toNat = true := by
  rw [u16le] at h
  unfold withinB
  simp
  omega
theorem base_good {n : SMatch} (hn : okM n = true) {v : Bool} (hv : kv v n = true) : Good19 n (baseM n n v) ∧ (baseM n n v).h.src = (eP (asksB n 2) n.src v).addr ∧ (baseM n n v).h.dst = (eP (asksB n 4) n.dst v).addr := by
  have on := Ok2.of hn
  obtain ⟨v1, v2⟩ := (kv_iff on.toOk v).1 hv
  have hs : (baseM n n v).h.src = (eP (asksB n 2) n.src v).addr := pickP_same on.src v1
  have hd : (baseM n n v).h.dst = (eP (asksB n 4) n.dst v).addr := pickP_same on.dst v2
  have cs := eP_chk on.csrc v
  have cd := eP_chk on.cdst v
  have vs := eP_v6 v1
  have vd := eP_v6 v2
  have ei : (baseM n n v).in_ = (n.in_.from_.toNat : Int) := by show ((max n.in_.from_ n.in_.from_).toNat : Int) = _; rw [max_same]
  have ep : (baseM n n v).h.proto = n.proto := max_same8 _
  have e1 : (baseM n n v).h.srcPort = n.srcPort.from_ := max_same _
  have e2 : (baseM n n v).h.dstPort = n.dstPort.from_ := max_same _
  have hoi := on.oin
  rw [u16le, u16le] at hoi
  have e255 : UInt16.toNat 255 = 255 := rfl
  refine ⟨(good_iff _ _).2 ⟨⟨by rw [ei]; omega, by rw [ei]; omega, by rw [hs, hd, vs, vd], ?_, ?_, ?_⟩, ?_, fun _ => ep, ?_, ?_, ?_, ?_⟩, hs, hd⟩
  · rw [hs]; exact hasP_zP (checkP_addr _ cs) _ rfl
  · rw [hd]; exact hasP_zP (checkP_addr _ cd) _ rfl
  · rw [ep, e1, e2]
    by_cases k : asksB n 16 = true ∨ asksB n 32 = true
    · exact .inl (good3_of_ok hn k).2
    · right
      have k1 : asksB n 16 = false := by cases h : asksB n 16 with
        | false => rfl
        | true => exact absurd (.inl h) k
      have k2 : asksB n 32 = false := by cases h : asksB n 32 with
        | false => rfl
        | true => exact absurd (.inr h) k
      rw [on.srcPort k1, on.dstPort k2]
      exact ⟨rfl, rfl⟩
  · intro _; rw [ei]; exact (within_from _ on.oin.1).1
  · intro k; rw [hs]; unfold eP; rw [k]; exact (Sub.refl (on.csrc k)).has
  · intro k; rw [hd]; unfold eP; rw [k]; exact (Sub.refl (on.cdst k)).has
  · intro _; rw [e1]; exact (within_from _ on.osp).1
  · intro _; rw [e2]; exact (within_from _ on.odp).1
/-- Bits of the last address. -/
theorem bitOf_or (x : UInt8) (j q : Nat) (hj : j < 8) (hq : q < 8) : bitOf (x ||| shr8 128 j) q = if q = j then 1 else bitOf x q := by
  have key : ∀ x : Fin 256, ∀ j q : Fin 8, (bitOf (UInt8.ofNat x.val ||| shr8 128 j.val) q.val) = if q.val = j.val then 1 else bitOf (UInt8.ofNat x.val) q.val := by decide +kernel
  have h := key ⟨x.toNat, x.toNat_lt⟩ ⟨j, hj⟩ ⟨q, hq⟩
  have e : UInt8.ofNat x.toNat = x := by simp
  simp only [e] at h
  exact h
theorem fold_bits (l : List Nat) (hl : ∀ j ∈ l, j < 8) (p : Nat → Prop) [DecidablePred p] (q : Nat) (hq : q < 8) : ∀ x : UInt8, bitOf (l.foldl (fun x j => if p j then x ||| shr8 128 j else x) x) q = if q ∈ l ∧ p q then 1 else bitOf x q := by
  induction l with
  | nil => intro x; simp
  | cons a l ih =>
    intro x
    simp only [List.foldl_cons]
    rw [ih (fun j hj => hl j (List.mem_cons_of_mem _ hj))]
    by_cases h1 : q ∈ l ∧ p q
    · rw [if_pos h1, if_pos ⟨List.mem_cons_of_mem _ h1.1, h1.2⟩]
    · rw [if_neg h1]
      by_cases hp : p a
      · rw [if_pos hp, bitOf_or _ _ _ (hl a List.mem_cons_self) hq]
        by_cases e : q = a
        · subst e
          rw [if_pos rfl, if_pos ⟨List.mem_cons_self, hp⟩]
        · rw [if_neg e, if_neg]
          rintro ⟨k1, k2⟩
          rcases List.mem_cons.1 k1 with k | k
          · exact e k
          · exact h1 ⟨k, k2⟩
      · rw [if_neg hp, if_neg]
        rintro ⟨k1, k2⟩
        rcases List.mem_cons.1 k1 with k | k
        · rw [k] at k2; exact hp k2
        · exact h1 ⟨k, k2⟩
theorem orV_bits (b : Vector UInt8 16) (a k i : Int) (h0 : 0 ≤ i) (h1 : i < 128) : bitU (orV b a k).toList i = if a ≤ i ∧ i < k then 1 else bitU b.toList i := by
  have e : i = 8 * (((i / 8).toNat : Nat) : Int) + (((i % 8).toNat : Nat) : Int) := by omega
  have hq : (i % 8).toNat < 8 := by omega
  have hb : (i / 8).toNat < 16 := by omega
  rw [e, bitU_at _ _ _ hq, bitU_at _ _ _ hq, vec_getD _ _ hb, vec_getD _ _ hb, orV_get]
  unfold orB
  rw [fold_bits _ (fun j hj => List.mem_range.1 hj) _ _ hq]
  have hm : (i % 8).toNat ∈ List.range 8 := List.mem_range.2 hq
  by_cases c : a ≤ 8 * (((i / 8).toNat : Nat) : Int) + (((i % 8).toNat : Nat) : Int) ∧ 8 * (((i / 8).toNat : Nat) : Int) + (((i % 8).toNat : Nat) : Int) < k
  · rw [if_pos ⟨hm, c⟩, if_pos c]
  · rw [if_neg (fun q => c q.2), if_neg c]
theorem last_facts {p : SPrefix} (h : checkP p = 0) : hasP p (lastA p) = true ∧ (∀ i : Int, p.bits ≤ i → i < wd p.addr → bitU (lastA p).b.toList i = 1) := by
  obtain ⟨g0, g1, g2⟩ := (checkP_zero p).1 h
  have hw := wd_le p.addr
  have hmx : max p.bits (wd p.addr) = wd p.addr := by omega
  have hb : ∀ i : Int, 0 ≤ i → i < 128 → bitU (lastA p).b.toList i = if p.bits ≤ i ∧ i < wd p.addr then 1 else bitU p.addr.b.toList i := fun i h0 h1 => by
    unfold lastA
    rw [hmx]
    exact orV_bits _ _ _ _ h0 h1
  have hwl : wd (lastA p) = wd p.addr := rfl
  refine ⟨(hasP_iff _ _).2 ⟨h, (checkA_zero _).2 (fun i i0 i1 => ?_), rfl, fun i i0 i1 => ?_⟩, fun i i0 i1 => ?_⟩
  · rw [hwl] at i0
    rw [hb i (by omega) i1, if_neg (by omega)]
    exact g2 i (by omega) i1
  · rw [hb i i0 (by omega), if_neg (by omega)]
  · rw [hb i (by omega) (by omega), if_pos ⟨i0, i1⟩]
/-- What lies not in a: the first or the last address of e. -/
theorem not_sub {a e : SPrefix} (ha : checkP a = 0) (he : checkP e = 0) (h : ¬ Sub a e) : hasP a e.addr = false ∨ hasP a (lastA e) = false := by
  cases h1 : hasP a e.addr with
  | false => exact .inl rfl
  | true =>
    right
    have hle : ¬ a.bits ≤ e.bits := fun k => h ⟨k, h1⟩
    obtain ⟨_, _, g3, g4⟩ := (hasP_iff _ _).1 h1
    obtain ⟨a0, a1, _⟩ := (checkP_zero a).1 ha
    obtain ⟨e0, e1, e2⟩ := (checkP_zero e).1 he
    obtain ⟨_, hl⟩ := last_facts he
    have hwe : wd e.addr = wd a.addr := by unfold wd; rw [g3]
    have hw := wd_le a.addr
    rw [Bool.eq_false_iff]
    intro k
    obtain ⟨_, _, _, k4⟩ := (hasP_iff _ _).1 k
    have q1 := hl e.bits (Int.le_refl _) (by omega)
    have q2 := k4 e.bits e0 (by omega)
    have q3 := g4 e.bits e0 (by omega)
    have q4 := e2 e.bits (Int.le_refl _) (by omega)
    rw [q1] at q2
    rw [q4] at q3
    rw [← q3] at q2
    exact absurd q2 (by decide)
end Go.Proofs.Ytkmdhmfgbgngeaa
