/- Part. -/
import Derived.Test.YtmdkmclgfgaahaaM4
set_option linter.unusedVariables false
set_option linter.unusedSimpArgs false
set_option linter.unusedSectionVars false
namespace Go.Proofs.Ytmdkmclgfgaahaa
open Go Go.Gx Go.Proofs.Ytmdkmclgfgaahaa.Tri
theorem good_of {k t : CL} {d : Int} (hk : k.Good d) (hps : t.ps = k.ps) (hus : t.us = k.us) (hrs : t.rs.Perm k.rs) (hms : t.ms.Perm k.ms) (hxs : t.xs.Perm k.xs) : t.Good d := by
  have hpb : ∀ p, portB t p = portB k p := fun p => by
    unfold portB portsM
    rw [hps]
  refine ⟨by rw [hps]; exact hk.ps, fun i hi => ?_, fun i hi => ?_, fun i hi => ?_, fun i hi => ?_, hk.d⟩
  · obtain ⟨j, hj, hz⟩ := getD_of k.rs eRoute.zero (P := fun x i => routeE k x i = 0) hk.rs _ (hrs.mem_iff.1 (getD_in t.rs i eRoute.zero hi))
    obtain ⟨z1, z2, _⟩ := routeE_z.1 hz
    exact routeE_z.2 ⟨z1, by rw [hpb]; exact z2, first_nodup SPrefix.eqb_iff eRoute.zero ((hrs.map _).nodup_iff.2 (good_rs hk)) i hi⟩
  · have hus' : rulesM t = rulesM k := by unfold rulesM; rw [hus]
    have e : ∀ x q, ruleE t x q = ruleE k x q := fun x q => by
      unfold ruleE ruleO
      rw [hus', hpb]
      have h1 : inM (metersM t) x.meter = inM (metersM k) x.meter := inM_perm _ hms _
      have h2 : inM (mirrorsM t) x.mirror = inM (mirrorsM k) x.mirror := inM_perm _ hxs _
      rw [h1, h2]
    rw [e, hus]
    exact hk.us i (by rw [← hus]; exact hi)
  · obtain ⟨j, hj, hz⟩ := getD_of k.ms eMeterConf.zero (P := fun x i => meterE k x i = 0) hk.ms _ (hms.mem_iff.1 (getD_in t.ms i eMeterConf.zero hi))
    obtain ⟨z1, z2, _⟩ := meterE_z.1 hz
    exact meterE_z.2 ⟨z1, z2, first_nodup eqs_iff eMeterConf.zero ((hms.map _).nodup_iff.2 (good_ms hk)) i hi⟩
  · obtain ⟨j, hj, hz⟩ := getD_of k.xs eMirrorConf.zero (P := fun x i => mirrorE k x i = 0) hk.xs _ (hxs.mem_iff.1 (getD_in t.xs i eMirrorConf.zero hi))
    obtain ⟨z1, z2, z3, _⟩ := mirrorE_z.1 hz
    exact mirrorE_z.2 ⟨z1, by rw [hpb]; exact z2, z3, first_nodup eqs_iff eMirrorConf.zero ((hxs.map _).nodup_iff.2 (good_xs hk)) i hi⟩
structure Ok2 (m : SMatch) : Prop extends Ok m where
  oin : m.in_.from_ ≤ m.in_.to_ ∧ m.in_.to_ ≤ 255
  osp : m.srcPort.from_ ≤ m.srcPort.to_
  odp : m.dstPort.from_ ≤ m.dstPort.to_
theorem Ok2.of {m : SMatch} (h : okM m = true) : Ok2 m := by
  refine ⟨Ok.of h, ?_, ?_, ?_⟩ <;> (unfold okM bad1 at h; simp at h)
  · exact ⟨h.1.1.2.1.1.1, h.1.1.2.1.1.2⟩
  · exact h.1.1.2.1.2
  · exact h.1.1.2.2
theorem u16le {x y : UInt16} : x ≤ y ↔ x.toNat ≤ y.toNat := UInt16.le_iff_toNat_le
def zP (v : Bool) : SPrefix := ⟨⟨v, Vector.replicate 16 0⟩, 0⟩
def eP (one : Bool) (a : SPrefix) (v : Bool) : SPrefix := bif one then a else zP v
structure Sub (a e : SPrefix) : Prop where
  le : a.bits ≤ e.bits
  has : hasP a e.addr = true
theorem pfx_iff (p : Bool) (a : SPrefix) (q : Bool) (b : SPrefix) (v : Bool) : prefixesR p a q b v = true ↔ (p = true → Sub a (eP q b v)) := by
  unfold prefixesR eP
  cases p
  · simp
  · constructor
    · intro h _
      simp only [Bool.not_true, Bool.false_or, Bool.and_eq_true, decide_eq_true_eq] at h
      exact ⟨h.1, h.2⟩
    · intro h
      obtain ⟨h1, h2⟩ := h rfl
      simp only [Bool.not_true, Bool.false_or, Bool.and_eq_true, decide_eq_true_eq]
      exact ⟨h1, h2⟩
theorem checkP_z (v : Bool) : checkP (zP v) = 0 := by
  refine (checkP_zero _).2 ⟨Int.le_refl _, ?_, fun i h0 h1 => ?_⟩
  · have := wd_le (zP v).addr
    show (0 : Int) ≤ _
    omega
  · have h := (checkA_zero _).1 (zeroA v)
    show bitU (Vector.replicate 16 (0 : UInt8)).toList i = 0
    unfold bitU
    have h0' : (0 : Int) ≤ i := h0
    have e : (Vector.replicate 16 (0 : UInt8)).toList.getD (i / 8).toNat 0 = 0 := by
      rw [vec_getD _ _ (by omega)]
      simp
    rw [e]
    apply UInt8.toNat_inj.1
    rw [UInt8.toNat_and, toNat_shr8]
    simp
theorem Sub.trans {a b c : SPrefix} (hc : checkA c.addr = 0) (h1 : Sub a b) (h2 : Sub b c) : Sub a c := by
  obtain ⟨g1, _, g3, g4⟩ := (hasP_iff _ _).1 h1.has
  obtain ⟨_, k2, k3, k4⟩ := (hasP_iff _ _).1 h2.has
  have l1 := h1.le
  have l2 := h2.le
  exact ⟨by omega, (hasP_iff _ _).2 ⟨g1, hc, k3.trans g3, fun i i0 i1 => (k4 i i0 (by omega)).trans (g4 i i0 i1)⟩⟩
theorem Sub.refl {a : SPrefix} (h : checkP a = 0) : Sub a a := ⟨Int.le_refl _, (hasP_iff _ _).2 ⟨h, checkP_addr a h, rfl, fun _ _ _ => rfl⟩⟩
theorem Sub.v6 {a e : SPrefix} (h : Sub a e) : e.addr.v6 = a.addr.v6 := ((hasP_iff _ _).1 h.has).2.2.1
theorem Sub.meet {a b c : SPrefix} (h : Sub a b) (hc : checkP c = 0) (hm : meetB b c = true) : meetB a c = true := by
  obtain ⟨g1, g2, g3, g4⟩ := (hasP_iff _ _).1 h.has
  have l1 := h.le
  unfold meetB at *
  rw [Bool.or_eq_true] at hm ⊢
  rcases hm with hm | hm
  · left
    obtain ⟨k1, k2, k3, k4⟩ := (hasP_iff _ _).1 hm
    exact (hasP_iff _ _).2 ⟨g1, k2, k3.trans g3, fun i i0 i1 => (k4 i i0 (by omega)).trans (g4 i i0 i1)⟩
  · obtain ⟨k1, k2, k3, k4⟩ := (hasP_iff _ _).1 hm
    rcases Int.le_total a.bits c.bits with hle | hle
    · left
      exact (hasP_iff _ _).2 ⟨g1, checkP_addr c hc, k3.symm.trans g3, fun i i0 i1 => (k4 i i0 (by omega)).symm.trans (g4 i i0 i1)⟩
    · right
      exact (hasP_iff _ _).2 ⟨hc, checkP_addr a g1, g3.symm.trans k3, fun i i0 i1 => (g4 i i0 (by omega)).symm.trans (k4 i i0 i1)⟩
def kv (v : Bool) (m : SMatch) : Bool := bif v then k6R m else k4R m
theorem kv_iff {m : SMatch} (h : Ok m) (v : Bool) : kv v m = true ↔ (asksB m 2 = true → m.src.addr.v6 = v) ∧ (asksB m 4 = true → m.dst.addr.v6 = v) := by
  have hs := h.same
  unfold kv k4R k6R
  cases v <;> cases h2 : asksB m 2 <;> cases h4 : asksB m 4 <;> cases h5 : m.src.addr.v6 <;> cases h6 : m.dst.addr.v6 <;> simp_all
theorem ac_iff (m n : SMatch) : ((!k4R n || pfx m n false) && (!k6R n || pfx m n true)) = true ↔ ∀ v, kv v n = true → (asksB m 2 = true → Sub m.src (eP (asksB n 2) n.src v)) ∧ (asksB m 4 = true → Sub m.dst (eP (asksB n 4) n.dst v)) := by
  have key : ∀ v, pfx m n v = true ↔ (asksB m 2 = true → Sub m.src (eP (asksB n 2) n.src v)) ∧ (asksB m 4 = true → Sub m.dst (eP (asksB n 4) n.dst v)) := fun v => by
    unfold pfx
    rw [Bool.and_eq_true, pfx_iff, pfx_iff]
  rw [Bool.and_eq_true]
  constructor
  · rintro ⟨h1, h2⟩ v hv
    apply (key v).1
    cases v
    · have : k4R n = true := hv
      simpa [this] using h1
    · have : k6R n = true := hv
      simpa [this] using h2
  · intro h
    refine ⟨?_, ?_⟩
    · cases hk : k4R n with
      | false => rfl
      | true => simpa using (key false).2 (h false hk)
    · cases hk : k6R n with
      | false => rfl
      | true => simpa using (key true).2 (h true hk)
def aaB (m n : SMatch) : Bool := !((k4R m && k4R n) || (k6R m && k6R n)) || (asksB m 2 && asksB n 2 && !meetB m.src n.src) || (asksB m 4 && asksB n 4 && !meetB m.dst n.dst)
def acB (m n : SMatch) : Bool := (!k4R n || pfx m n false) && (!k6R n || pfx m n true)
def cpB (m n : SMatch) : Bool := !(asksB m 8 && (!asksB n 8 || decide (¬ m.proto = n.proto)))
theorem covers_parts {m n : SMatch} (hm : okM m = true) (hn : okM n = true) : coversM m n = true ↔ spansR (asksB m 1) m.in_ (asksB n 1) n.in_ 255 = true ∧ acB m n = true ∧ cpB m n = true ∧ spansR (asksB m 16) m.srcPort (asksB n 16) n.srcPort 65535 = true ∧ spansR (asksB m 32) m.dstPort (asksB n 32) n.dstPort 65535 = true := by
  rw [covers_eq]
  unfold coversR
  rw [hm, hn]
  show (spansR _ _ _ _ _ && acB m n && cpB m n && (_ && _)) = true ↔ _
  simp only [Bool.and_eq_true, and_assoc]
theorem compE_all {l : List SMatch} (h : compE l = 0) : l.all okM = true ∧ l.length ≤ 256 := by
  unfold compE at h
  cases h1 : decide (256 < l.length) with
  | true => rw [h1] at h; cases h
  | false =>
    rw [h1] at h
    refine ⟨?_, by simpa using h1⟩
    cases h2 : l.all okM with
    | true => rfl
    | false => rw [h2] at h; cases h
structure Pk where
  in_ : Int
  h : SHeader
theorem firstF_spec (q : SMatch → Bool) : ∀ (l : List SMatch) (k : Int), (firstF q l k = -1 ∧ ∀ j : Nat, j < l.length → q (l.getD j eMatch.zero) = false) ∨ ∃ p : Nat, firstF q l k = k + p ∧ p < l.length ∧ q (l.getD p eMatch.zero) = true ∧ ∀ j : Nat, j < p → q (l.getD j eMatch.zero) = false
  | [], k => .inl ⟨rfl, fun j h => absurd h (Nat.not_lt_zero _)⟩
  | m :: l, k => by
    cases hm : q m with
    | true => exact .inr ⟨0, by simp [firstF, hm], by simp, by simpa [List.getD] using hm, fun j h => absurd h (Nat.not_lt_zero _)⟩
    | false =>
      have e : firstF q (m :: l) k = firstF q l (k + 1) := by simp [firstF, hm]
      rw [e]
      rcases firstF_spec q l (k + 1) with ⟨h1, h2⟩ | ⟨p, h1, h2, h3, h4⟩
      · refine .inl ⟨h1, fun j hj => ?_⟩
        cases j with
        | zero => simpa [List.getD] using hm
        | succ j => simpa [List.getD] using h2 j (by simpa using hj)
      · refine .inr ⟨p + 1, by rw [h1]; omega, by simp; omega, by simpa [List.getD] using h3, fun j hj => ?_⟩
        cases j with
        | zero => simpa [List.getD] using hm
        | succ j => simpa [List.getD] using h4 j (by omega)
def idxs (l : List SMatch) (n : Nat) : List Nat := (List.range n).filter fun k => !deadAt l k
def alT (l : List SMatch) (n : Nat) : List SMatch := (idxs l n).map fun k => l.getD k eMatch.zero
def plT (l : List SMatch) (n : Nat) : List Int := (idxs l n).map fun k : Nat => (k : Int)
theorem idxs_step (l : List SMatch) (n : Nat) : idxs l (n + 1) = bif deadAt l n then idxs l n else idxs l n ++ [n] := by
  unfold idxs
  rw [List.range_succ, List.filter_append]
  cases h : deadAt l n <;> simp [h]
theorem idxs_mem {l : List SMatch} {n k : Nat} : k ∈ idxs l n ↔ k < n ∧ deadAt l k = false := by
  unfold idxs
  simp
theorem idxs_sorted (l : List SMatch) (n : Nat) : (idxs l n).Pairwise (· < ·) := List.Pairwise.filter _ List.pairwise_lt_range
theorem alT_get (l : List SMatch) (n p : Nat) (h : p < (idxs l n).length) : (alT l n).getD p eMatch.zero = l.getD (idxs l n)[p] eMatch.zero := by simp [alT, List.getD, h]
theorem plT_get (l : List SMatch) (n p : Nat) (h : p < (idxs l n).length) : (plT l n).getD p 0 = ((idxs l n)[p] : Int) := by simp [plT, List.getD, h]
theorem alT_len (l : List SMatch) (n : Nat) : (alT l n).length = (idxs l n).length := by simp [alT]
theorem plT_len (l : List SMatch) (n : Nat) : (plT l n).length = (idxs l n).length := by simp [plT]
theorem order_law (q : SMatch → Bool) (l : List SMatch) (hnd : ∀ p : Nat, p < l.length → q (l.getD p eMatch.zero) = true → (∀ j : Nat, j < p → q (l.getD j eMatch.zero) = false) → deadAt l p = false) :
    (firstF q (alT l l.length) 0 = -1 ∧ firstF q l 0 = -1) ∨ ∃ n : Nat, firstF q (alT l l.length) 0 = n ∧ n < (plT l l.length).length ∧ (plT l l.length).getD n 0 = firstF q l 0 ∧ 0 ≤ firstF q l 0 := by
  rcases firstF_spec q (alT l l.length) 0 with ⟨h1, h2⟩ | ⟨n, h1, h2, h3, h4⟩
  · rcases firstF_spec q l 0 with ⟨g1, _⟩ | ⟨p, g1, g2, g3, g4⟩
    · exact .inl ⟨h1, g1⟩
    · exfalso
      have hm : p ∈ idxs l l.length := idxs_mem.2 ⟨g2, hnd p g2 g3 g4⟩
      obtain ⟨r, hr, hp⟩ := List.mem_iff_getElem.1 hm
      have := h2 r (by rw [alT_len]; exact hr)
      rw [alT_get l _ r hr, hp, g3] at this
      cases this
  · right
    have hn : n < (idxs l l.length).length := by rw [alT_len] at h2; exact h2
    rw [alT_get l _ n hn] at h3
    refine ⟨n, by rw [h1]; omega, by rw [plT_len]; exact hn, ?_, ?_⟩
    · rw [plT_get l _ n hn]
      rcases firstF_spec q l 0 with ⟨g1, g2⟩ | ⟨p, g1, g2, g3, g4⟩
      · have hlt := (idxs_mem.1 (List.getElem_mem hn)).1
        rw [g2 _ hlt] at h3
        cases h3
      · have hm : p ∈ idxs l l.length := idxs_mem.2 ⟨g2, hnd p g2 g3 g4⟩
        obtain ⟨r, hr, hp⟩ := List.mem_iff_getElem.1 hm
        have hge : p ≤ (idxs l l.length)[n] := by
          rcases Nat.lt_or_ge (idxs l l.length)[n] p with h | h
          · rw [g4 _ h] at h3; cases h3
          · exact h
        have hrn : n ≤ r := by
          rcases Nat.lt_or_ge r n with h | h
          · have h5 := h4 r h
            rw [alT_get l _ r hr, hp, g3] at h5
            cases h5
          · exact h
        have hle : (idxs l l.length)[n] ≤ p := by
          rcases Nat.lt_or_ge n r with h | h
          · have := List.pairwise_iff_getElem.1 (idxs_sorted l l.length) n r hn hr h
            omega
          · have e : n = r := by omega
            subst e
            omega
        rw [g1]
        omega
    · rcases firstF_spec q l 0 with ⟨g1, g2⟩ | ⟨p, g1, g2, g3, g4⟩
      · have hlt := (idxs_mem.1 (List.getElem_mem hn)).1
        rw [g2 _ hlt] at h3
        cases h3
      · rw [g1]; omega
def usualB (x : Pk) : Bool := decide (0 ≤ x.in_) && decide (x.in_ ≤ 255) && decide (x.h.src.v6 = x.h.dst.v6) && hasP (zP x.h.src.v6) x.h.src && hasP (zP x.h.dst.v6) x.h.dst && ((decide (x.h.proto = 6) || decide (x.h.proto = 17)) || (decide (x.h.srcPort = 0) && decide (x.h.dstPort = 0)))
theorem span_sound (p q : Bool) (a b : SSpan) (t : UInt16) (n : Int) (h0 : 0 ≤ n) (ht : n ≤ t.toNat) (h : spansR p a q b t = true) (hq : (!q || withinB b n) = true) : (!p || withinB a n) = true := by
  unfold spansR withinB at *
  cases p <;> cases q <;> simp [u16le] at * <;> omega
theorem sub_sound {p q : Bool} {a b : SPrefix} {x : SAddr} (hz : hasP (zP x.v6) x = true) (h : p = true → Sub a (eP q b x.v6)) (hq : (!q || hasP b x) = true) : (!p || hasP a x) = true := by
  cases p with
  | false => rfl
  | true =>
    have s := h rfl
    have hx := ((hasP_iff _ _).1 hz).2.1
    have s2 : Sub (eP q b x.v6) ⟨x, (eP q b x.v6).bits⟩ := by
      refine ⟨Int.le_refl _, ?_⟩
      cases q with
      | false => exact hz
      | true =>
        have hb : hasP b x = true := by simpa using hq
        exact hb
    simpa using (s.trans (c := ⟨x, (eP q b x.v6).bits⟩) hx s2).has
theorem covers_sound {m n : SMatch} {x : Pk} (hm : okM m = true) (hn : okM n = true) (hc : coversM m n = true) (hu : usualB x = true) (h : metB n x.in_ x.h = true) : metB m x.in_ x.h = true := by
  obtain ⟨a1, a2, a3, a4, a5⟩ := (covers_parts hm hn).1 hc
  unfold usualB at hu
  simp only [Bool.and_eq_true, decide_eq_true_eq, and_assoc] at hu
  obtain ⟨u1, u2, u3, u4, u5, _⟩ := hu
  rw [metB_eq] at h ⊢
  simp only [Bool.and_eq_true, and_assoc] at h ⊢
  obtain ⟨b1, b2, b3, b4, b5, b6⟩ := h
  have on := Ok.of hn
  have hv : kv x.h.src.v6 n = true := (kv_iff on _).2 ⟨fun e => by
      rw [e] at b3
      exact (((hasP_iff _ _).1 (by simpa using b3)).2.2.1).symm, fun e => by
      rw [e] at b4
      exact ((((hasP_iff _ _).1 (by simpa using b4)).2.2.1).symm).trans u3.symm⟩
  have g := (ac_iff m n).1 a2 _ hv
  have g2 := g.2
  rw [u3] at g2
  refine ⟨span_sound _ _ _ _ 255 _ u1 (by show x.in_ ≤ ((255 : Nat) : Int); omega) a1 b1, ?_, sub_sound u4 g.1 b3, sub_sound u5 g2 b4, span_sound _ _ _ _ _ _ (by omega) (by have := x.h.srcPort.toNat_lt; show ((x.h.srcPort.toNat : Nat) : Int) ≤ ((65535 : Nat) : Int); omega) a4 b5, span_sound _ _ _ _ _ _ (by omega) (by have := x.h.dstPort.toNat_lt; show ((x.h.dstPort.toNat : Nat) : Int) ≤ ((65535 : Nat) : Int); omega) a5 b6⟩
  unfold cpB at a3
  cases h5 : asksB m 8 <;> cases h6 : asksB n 8 <;> simp_all
theorem first_alive {l : List SMatch} (hc : compE l = 0) (x : Pk) (hu : usualB x = true) (p : Nat) (hp : p < l.length) (hq : metB (l.getD p eMatch.zero) x.in_ x.h = true) (hb : ∀ j : Nat, j < p → metB (l.getD j eMatch.zero) x.in_ x.h = false) : deadAt l p = false := by
  obtain ⟨ha, _⟩ := compE_all hc
  have ok : ∀ k, k < l.length → okM (l.getD k eMatch.zero) = true := fun k hk => List.all_eq_true.1 ha _ (getD_mem _ _ _ hk)
  refine deadAt_no l p (by omega) (fun q hq2 => ?_)
  cases hcv : coversM (l.getD q eMatch.zero) (l.getD p eMatch.zero) with
  | false => rfl
  | true =>
    have := covers_sound (ok q (by omega)) (ok p hp) hcv hu hq
    rw [hb q (by omega)] at this
    cases this
theorem usual_of {n c : Int} {h : SHeader} (hc : ¬ checkH h c = 2) (hn : 0 ≤ n ∧ n ≤ 255) : usualB ⟨n, h⟩ = true := by
  unfold checkH at hc
  have hz : ∀ a : SAddr, checkA a = 0 → hasP (zP a.v6) a = true := fun a ha => (hasP_iff _ _).2 ⟨checkP_z _, ha, rfl, fun i i0 i1 => absurd i1 (by show ¬ i < 0; omega)⟩
  split at hc
  · exact absurd rfl hc
  · rename_i h1
    split at hc
    · exact absurd rfl hc
    · rename_i h2
      simp only [not_or, Decidable.not_not, ne_eq] at h1
      unfold usualB
      simp only [Bool.and_eq_true, Bool.or_eq_true, decide_eq_true_eq]
      refine ⟨⟨⟨⟨⟨hn.1, hn.2⟩, h1.2.2.1⟩, hz _ h1.1⟩, hz _ h1.2.1⟩, ?_⟩
      by_cases h6 : h.proto = 6
      · exact .inl (.inl h6)
      · by_cases h17 : h.proto = 17
        · exact .inl (.inr h17)
        · have hm : midN h.proto = 0 := by unfold midN; rw [if_neg h6, if_neg h17]
          refine .inr ?_
          have h3 : ¬ (h.srcPort ≠ 0 ∨ h.dstPort ≠ 0) := fun e => h2 (.inl ⟨hm, e⟩)
          simp only [not_or, Decidable.not_not, ne_eq] at h3
          exact h3
def delK {α : Type} (us : List α) : List Int → List α
  | [] => us
  | k :: D => (delK us D).take k.toNat ++ (delK us D).drop (k + 1).toNat
theorem delK_snoc {α : Type} (k : Int) : ∀ (D : List Int) (us : List α), delK us (D ++ [k]) = delK (us.take k.toNat ++ us.drop (k + 1).toNat) D
  | [], us => rfl
  | j :: D, us => by
    show (delK us (D ++ [k])).take _ ++ (delK us (D ++ [k])).drop _ = (delK _ D).take _ ++ (delK _ D).drop _
    rw [delK_snoc k D us]
theorem map_lt {α : Type} {us vs : List α} (z : α) {ks : List Nat} {n : Nat} (hk : ∀ k ∈ ks, k < n) (h : ∀ k, k < n → us.getD k z = vs.getD k z) : (ks.map fun k => us.getD k z) = ks.map fun k => vs.getD k z := List.map_congr_left fun k hk2 => h k (hk k hk2)
theorem del_dead (ms : List SMatch) (z : SRule) : ∀ (n : Nat) (us : List SRule), n ≤ us.length → delK us (deadT ms n) = ((idxs ms n).map fun k => us.getD k z) ++ us.drop n
  | 0, us, _ => by simp [deadT, delK, idxs]
  | n + 1, us, h => by
    rw [deadT_step, idxs_step]
    have hlt : ∀ k ∈ idxs ms n, k < n := fun k hk => (idxs_mem.1 hk).1
    cases hd : deadAt ms n with
    | true =>
      show delK us (deadT ms n ++ [(n : Int)]) = ((idxs ms n).map _) ++ _
      rw [delK_snoc]
      have e1 : ((n : Int)).toNat = n := by omega
      have e2 : ((n : Int) + 1).toNat = n + 1 := by omega
      rw [e1, e2, del_dead ms z n _ (by simp; omega)]
      congr 1
      · refine map_lt z hlt fun k hk => ?_
        have hk2 : k < us.length := by omega
        rw [List.getD_eq_getElem?_getD, List.getD_eq_getElem?_getD, List.getElem?_append_left (by simp; omega), List.getElem?_take, if_pos hk]
      · have e3 : (us.take n).length = n := by simp; omega
        rw [List.drop_append, e3, Nat.sub_self, List.drop_eq_nil_of_le (by omega)]
        simp
    | false =>
      show delK us (deadT ms n) = ((idxs ms n ++ [n]).map _) ++ _
      rw [del_dead ms z n us (by omega), List.map_append, List.append_assoc]
      congr 1
      rw [List.drop_eq_getElem_cons (by omega)]
      simp [List.getD, show n < us.length by omega]
def aliveU (l : CL) : List SRule := (idxs (mtL l) l.us.length).map fun k => l.us.getD k eRule.zero
theorem del_alive (l : CL) : delK l.us (deadB (mtL l)) = aliveU l := by
  unfold deadB
  rw [mtL_len, del_dead (mtL l) eRule.zero l.us.length l.us (Nat.le_refl _), List.drop_length, List.append_nil]
  rfl
theorem deadT_sorted (ms : List SMatch) (n : Nat) : (deadT ms n).Pairwise (· < ·) := by
  unfold deadT
  rw [List.pairwise_map]
  exact (List.Pairwise.filter _ List.pairwise_lt_range).imp fun h => by omega
theorem deadT_rng (ms : List SMatch) (n : Nat) : ∀ x ∈ deadT ms n, 0 ≤ x ∧ x < n := fun x hx => by
  unfold deadT at hx
  obtain ⟨k, hk, rfl⟩ := List.mem_map.1 hx
  have := List.mem_range.1 (List.mem_filter.1 hk).1
  omega
theorem asc_bound {D : List Int} (hs : D.Pairwise (· < ·)) {N : Int} (hN : ∀ x ∈ D, x < N) : ∀ m j : Nat, j + m = D.length → 0 < m → D.getD j 0 + (m : Int) ≤ N
  | 0, _, _, h => by omega
  | 1, j, hj, _ => by
    have h1 : j < D.length := by omega
    have := hN D[j] (List.getElem_mem h1)
    have e : D.getD j 0 = D[j] := by simp [List.getD, h1]
    rw [e]
    omega
  | m + 2, j, hj, _ => by
    have ih := asc_bound hs hN (m + 1) (j + 1) (by omega) (by omega)
    have h1 : j < D.length := by omega
    have h2 : j + 1 < D.length := by omega
    have h3 := List.pairwise_iff_getElem.1 hs j (j + 1) h1 h2 (by omega)
    have e : D.getD j 0 = D[j] := by simp [List.getD, h1]
    have e2 : D.getD (j + 1) 0 = D[j + 1] := by simp [List.getD, h2]
    rw [e]
    rw [e2] at ih
    omega
def sparedL (l : CL) (rs : List SRoute) : CL := { l with us := aliveU l, rs := rs }
theorem alive_sub (l : CL) : (aliveU l).Sublist l.us := by
  have h : ((idxs (mtL l) l.us.length).map fun k => l.us.getD k eRule.zero).Sublist ((List.range l.us.length).map fun k => l.us.getD k eRule.zero) := List.filter_sublist.map _
  have e : (List.range l.us.length).map (fun k => l.us.getD k eRule.zero) = l.us := by
    refine List.ext_getElem (by simp) fun i h1 h2 => ?_
    simp [List.getD, h2]
  rw [e] at h
  exact h
theorem spared_good {l : CL} {d : Int} (h : l.Good d) {rs : List SRoute} (hp : rs.Perm l.rs) : (sparedL l rs).Good d := by
  have h1 : CL.Good { l with us := aliveU l } d := by
    refine ⟨fun i hi => h.ps i hi, fun i hi => h.rs i hi, fun i hi => ?_, fun i hi => h.ms i hi, fun i hi => h.xs i hi, h.d⟩
    have hin := (alive_sub l).subset (getD_in (aliveU l) i eRule.zero hi)
    obtain ⟨j, hj, hz⟩ := getD_of l.us eRule.zero (P := fun x i => ruleE l x i = 0) h.us _ hin
    obtain ⟨z1, z2, z3, z4, z5, _⟩ := ruleE_z.1 hz
    exact ruleE_z.2 ⟨z1, z2, z3, z4, z5, first_nodup eqs_iff eRule.zero ((good_us h).sublist ((alive_sub l).map _)) i hi⟩
  exact good_of h1 rfl rfl hp (List.Perm.refl _) (List.Perm.refl _)
theorem spared_may {l : CL} {d : Int} (h : mayB l d = true) {rs : List SRoute} (hp : rs.Perm l.rs) : mayB (sparedL l rs) d = true := by
  obtain ⟨h1, h2, h3, h4, h5⟩ := may_lens h
  have := (alive_sub l).length_le
  exact good_may (spared_good (may_good h) hp) ⟨h1, by show rs.length ≤ 1024; rw [hp.length_eq]; exact h2, by show (aliveU l).length ≤ 256; omega, h4, h5⟩
theorem spared_mt (l : CL) (rs : List SRoute) : mtL (sparedL l rs) = alT (mtL l) (mtL l).length := by
  unfold alT
  show (aliveU l).map (fun r => r.match_) = _
  unfold aliveU
  rw [mtL_len, List.map_map]
  refine List.map_congr_left fun k hk => ?_
  have hk2 := (idxs_mem.1 hk).1
  simp [mtL, List.getD, hk2]
theorem route_perm {rs rs' : List SRoute} (hp : rs'.Perm rs) (hn : (rs.map (·.to_)).Nodup) (a : SAddr) : routeV rs' a = routeV rs a := by
  have gd : ∀ (l : List SRoute) (k : Nat) (h : k < l.length), l.getD k eRoute.zero = l[k] := fun l k h => by simp [List.getD, h]
  unfold routeV longK
  rcases longN_spec rs a rs.length with ⟨h1, h2⟩ | ⟨k, h1, h2, h3, h4⟩ <;> rcases longN_spec rs' a rs'.length with ⟨g1, g2⟩ | ⟨j, g1, g2, g3, g4⟩
  · rw [h1, g1]
    rfl
  · exfalso
    rw [gd rs' j g2] at g3
    obtain ⟨i, hi, e⟩ := List.mem_iff_getElem.1 (hp.mem_iff.1 (List.getElem_mem g2))
    have := h2 i hi
    rw [gd rs i hi, e, g3] at this
    cases this
  · exfalso
    rw [gd rs k h2] at h3
    obtain ⟨i, hi, e⟩ := List.mem_iff_getElem.1 (hp.mem_iff.2 (List.getElem_mem h2))
    have := g2 i hi
    rw [gd rs' i hi, e, h3] at this
    cases this
  · have ek : ((k : Nat) : Int).toNat = k := by omega
    have ej : ((j : Nat) : Int).toNat = j := by omega
    rw [h1, g1, if_neg (by omega), if_neg (by omega), ek, ej]
    have b1 : (rs.getD k eRoute.zero).to_.bits = (rs'.getD j eRoute.zero).to_.bits := by
      obtain ⟨i, hi, e⟩ := List.mem_iff_getElem.1 (hp.mem_iff.1 (List.getElem_mem g2))
      obtain ⟨m, hm, e2⟩ := List.mem_iff_getElem.1 (hp.mem_iff.2 (List.getElem_mem h2))
      have c1 := h4 i hi (by rw [gd rs i hi, e, ← gd rs' j g2]; exact g3)
      have c2 := g4 m hm (by rw [gd rs' m hm, e2, ← gd rs k h2]; exact h3)
      rw [gd rs i hi, e, ← gd rs' j g2] at c1
      rw [gd rs' m hm, e2, ← gd rs k h2] at c2
      omega
    have e := has_uniq h3 g3 b1
    have e2 := nodup_inj hn (getD_in rs k eRoute.zero h2) (hp.mem_iff.1 (getD_in rs' j eRoute.zero g2)) e
    rw [e2]
theorem spared_like {l : CL} {d : Int} (hm : mayB l d = true) {rs : List SRoute} (hp : rs.Perm l.rs) {n c : Int} {h : SHeader} (he : deE h c = 0) (hn : 0 ≤ n ∧ n ≤ 255) : likeV l d (sparedL l rs) d n h c = true := by
  have hc := deE_ok (e := 0) he (by decide)
  have hu := usual_of hc hn
  have hcomp := may_comp hm
  have hm2 := spared_may hm hp
  unfold likeV dvV
  rw [he, if_neg hc, if_neg hc]
  cases hps : l.ps.any (fun x => decide (n = x)) with
  | false =>
    have hps2 : (sparedL l rs).ps.any (fun x => decide (n = x)) = false := hps
    rw [decV_no hps, decV_no hps2]
    rfl
  | true =>
    have hps2 : (sparedL l rs).ps.any (fun x => decide (n = x)) = true := hps
    obtain ⟨a1, a2, a3⟩ := decV_parts (d := d) (h := h) hps
    obtain ⟨b1, b2, b3⟩ := decV_parts (d := d) (h := h) hps2
    have hol := order_law (metQ n h) (mtL l) (fun p hp2 hq hb => first_alive hcomp ⟨n, h⟩ hu p hp2 hq hb)
    rw [← spared_mt l rs] at hol
    have key : (metI (sparedL l rs) n h = -1 ∧ metI l n h = -1) ∨ (0 ≤ metI (sparedL l rs) n h ∧ 0 ≤ metI l n h ∧ (sparedL l rs).us.getD (metI (sparedL l rs) n h).toNat eRule.zero = l.us.getD (metI l n h).toNat eRule.zero) := by
      rcases hol with ⟨g1, g2⟩ | ⟨m, g1, g2, g3, g4⟩
      · exact .inl ⟨g1, g2⟩
      · refine .inr ?_
        have g1 : metI (sparedL l rs) n h = m := g1
        have hml : m < (idxs (mtL l) (mtL l).length).length := by rw [plT_len] at g2; exact g2
        rw [plT_get (mtL l) _ m hml] at g3
        have g3 : ((idxs (mtL l) (mtL l).length)[m] : Int) = metI l n h := g3
        have g4 : 0 ≤ metI l n h := g4
        refine ⟨by omega, g4, ?_⟩
        rw [g1, ← g3]
        have e1 : ((m : Nat) : Int).toNat = m := by omega
        rw [e1]
        show (aliveU l).getD m eRule.zero = _
        unfold aliveU
        have e2 : ∀ k : Nat, ((k : Nat) : Int).toNat = k := fun k => by omega
        rw [e2]
        have hml2 : m < (idxs (mtL l) l.us.length).length := by rw [← mtL_len]; exact hml
        simp only [mtL_len]
        simp [List.getD, hml2]
    have hact : actI l d (ruleI l n h) = actI (sparedL l rs) d (ruleI (sparedL l rs) n h) := by
      have r1 := metI_rng l n h
      have r2 := metI_rng (sparedL l rs) n h
      rcases key with ⟨g1, g2⟩ | ⟨g1, g2, g3⟩
      · rw [ruleI_lt (by omega), ruleI_lt (by omega)]
        unfold actI
        rw [if_neg (by omega), if_neg (by omega)]
      · have e1 := ruleI_ge (l := l) (n := n) (h := h) (by omega)
        have e2 := ruleI_ge (l := sparedL l rs) (n := n) (h := h) (by omega)
        unfold actI
        rw [if_pos (by omega), if_pos (by omega)]
        have e3 : ruleI l n h = (metI l n h).toNat := by omega
        have e4 : ruleI (sparedL l rs) n h = (metI (sparedL l rs) n h).toNat := by omega
        rw [e3, e4, g3]
    have hro : ∀ a o x, actO (sparedL l rs).rs a o x = actO l.rs a o x := fun a o x => by
      unfold actO
      rw [show (sparedL l rs).rs = rs from rfl, route_perm hp (good_rs (may_good hm))]
    rw [← hact, hro] at b3
    have h5 := a3.trans b3.symm
    have h6 := congrArg Prod.fst h5
    have h7 := congrArg Prod.snd h5
    have hme : (decV l d n h).meter = (decV (sparedL l rs) d n h).meter ∧ (decV l d n h).mirror = (decV (sparedL l rs) d n h).mirror := by
      rw [a1.m, b1.m, a1.x, b1.x]
      rcases key with ⟨g1, g2⟩ | ⟨g1, g2, g3⟩
      · rw [if_neg (by omega), if_neg (by omega), if_neg (by omega), if_neg (by omega)]
        exact ⟨rfl, rfl⟩
      · rw [if_pos g2, if_pos g1, if_pos g2, if_pos g1, g3]
        exact ⟨rfl, rfl⟩
    unfold likeB
    have h6 : (decV l d n h).action = (decV (sparedL l rs) d n h).action := h6
    have h7 : (decV l d n h).out = (decV (sparedL l rs) d n h).out := h7
    rw [h6, h7, hme.1, hme.2]
    have e9 : (sparedL l rs).ms = l.ms := rfl
    have e10 : (sparedL l rs).xs = l.xs := rfl
    rw [e9, e10]
    simp
end Go.Proofs.Ytmdkmclgfgaahaa
namespace Go.Proofs.Ytmdkmclgfgaahaa
open Go Go.Gx Go.Proofs.Ytmdkmclgfgaahaa.Tri
theorem ru_at {K : Ctx} {L : List Res} {r : Res} {x : Nat × List Res} {l : List SMatch} (h : ∀ w, (∀ q ∈ x.2, q.A w) → RulesAt w x.1 l) (hm : Seps r x.2 ∈ L) (w : World) (I : WInv K L w) : RulesAt w x.1 l := h w (Seps.A _ _ (at_mem hm w I).1).2
theorem en21 : Gx.Enters Try.prog 21 := Gx.Enters.mk' (by kernel_rfl)
theorem PlanSpared_walk (c : SConf) (l : CL) (u : Value) (xs : List SLaw22Came) (dts : List (List UInt8)) (turn : Int) (w : World) (hc : ConfAt w c l) (hn : l.Names) (hz : l.n ≤ 4611686018427387904) (hu : IsSl eLaw22Came w u xs) (hpk : PksAt w xs dts) (hft : Fit turn) : Calls Try.prog 6 #[eConf.val c, u, I turn] w (RetV w (.bool true)) := by
  have hle := hu.le
  have hl1 := hc.ps.le
  have hl2 := hc.us.le
  have hl3 := hc.rs.le
  refine en0 161 Try.func6 ?_
  refine sg (cons (box (E := eConf) (.t rfl) (fun b1 => ?_)))
  refine co (Ev.assign (.c (v := .bool false) rfl)) ?_
  refine nP (seq (seq (emp0 ?_)))
  refine region (cons (callv en7 .nil (fun w I => works_ok w) ?_))
  refine co (Ev.not (.t rfl)) ?_
  refine nP (condF rfl (rfl) ?_)
  refine skip (pN (sg (co (Ev.ldx c ty28 (.t rfl) (Lens.id _)) ?_)))
  refine cons (calln (X := Pl × List Res) (CompileJ l c.default) (fun x : Pl × List Res => .tuple #[.pointer (plO l c.default x.1.b), I (plE l c.default)]) (fun x => x.2) en8 (.cons (.t rfl) .nil) (fun w I => compile_plan c l w (hc.keep0 I.keeps) hn hz) (fun x1 hx1 => ?_))
  refine mv rfl (co (Ev.extract (.t rfl) rfl) (co (Ev.extract (.t rfl) rfl) (asn rfl (asn rfl (nP (seq (seq (takeSeps (r := Emp) (by repeat first | exact Rem.head | apply Rem.tail) ?_))))))))
  refine region (mv rfl (co (Ev.neq_i (.t rfl) (.c (v := I 0) rfl)) ?_))
  refine nP ?_
  first | refine condD rfl (fun h1 => ?_) (fun h1 => ?_) | refine cond rfl (fun h1 => ?_) (fun h1 => ?_)
  · refine sg (co (Ev.assign (.c (v := .bool true) rfl)) ?_)
    refine nP (ret (pR (done rfl (.tmp rfl .nil) (retE ?_))))
    rfl
  · have hmay : mayB l c.default = true := by
      cases hm : mayB l c.default with
      | true => rfl
      | false => simp [plE, hm] at h1
    obtain ⟨hpo, hpa⟩ := hx1 hmay
    have hlens := may_lens hmay
    have hcomp := may_comp hmay
    have hdl := deadT_len (mtL l) (mtL l).length
    rw [mtL_len] at hdl
    change (deadT (mtL l) (l.us.length)).length ≤ _ at hdl
    have hdl2 : (deadB (mtL l)).length ≤ l.us.length := by unfold deadB; rw [mtL_len]; exact hdl
    refine skip (pN (sg (co (Ev.to (v' := .pointer (some ⟨x1.1.b, 0, none⟩)) (Ev.move (.t rfl)) (congrArg Value.pointer (if_pos hmay))) ?_)))
    refine cons (calln (X := CB) (fun _ => True) (fun x => eConf.val (x.c c.default)) (fun x => x.R l) en13 (.cons (.t rfl) .nil) (fun w I => conf_plan x1.1 l c.default w (pl_at hpa (by repeat first | exact mH | apply mT | apply mA) w I) hpo) (fun x2 _ => ?_))
    refine cons (alloc z28 (fun b2 => ?_))
    refine cons (stv ty28 (Lens.id _) (.t rfl) (.t rfl) ?_)
    refine nP (sg (co (Ev.assign (.c (v := (Go.Value.slice none 0 0)) rfl)) ?_))
    refine takeNil eMatch 55 ?_
    refine nP (seq (sg (co (Ev.assign (.c (v := I 0) rfl)) ?_)))
    refine nP (block (lp (X := Int × OV) (fun x : Int × OV => (0 ≤ x.1 ∧ x.1 ≤ l.us.length)) (fun x : Int × OV => [dz, (1, true, u), (2, true, I turn), (3, true, .pointer (some ⟨b1, 0, none⟩)), (7, true, .pointer (plO l c.default x1.1.b)), (9, true, .pointer (some ⟨b2, 0, none⟩)), (10, true, x.2.v), (11, true, I x.1)]) (fun x : Int × OV => [OwnS x.2.v eMatch ((l.us.take x.1.toNat).map (fun r => r.match_)) 55, Var b2 eConf (⟨x2.o1, x2.o2, x2.o3, x2.o4, x2.o5, c.default⟩ : SConf) 28, OwnS x2.o5.v eMirrorConf l.xs 97, OwnS x2.o4.v eMeterConf l.ms 95, OwnS x2.o3.v eRule l.us 57, OwnS x2.o2.v eRoute l.rs 60, OwnS x2.o1.v iE l.ps 3, Seps Emp x1.2, Var b1 eConf c 28]) (fun x : Int × OV => ((l.us.length : Int) - x.1).toNat) (0, nilSl) ?_ (fun x hx => ?_)))
    · omega
    obtain ⟨j, m⟩ := x
    have hj : 0 ≤ j ∧ j ≤ l.us.length := hx
    clear hx
    show Sat _ _ [dz, (1, true, u), (2, true, I turn), (3, true, .pointer (some ⟨b1, 0, none⟩)), (7, true, .pointer (plO l c.default x1.1.b)), (9, true, .pointer (some ⟨b2, 0, none⟩)), (10, true, m.v), (11, true, I j)] [OwnS m.v eMatch ((l.us.take j.toNat).map (fun r => r.match_)) 55, Var b2 eConf (⟨x2.o1, x2.o2, x2.o3, x2.o4, x2.o5, c.default⟩ : SConf) 28, OwnS x2.o5.v eMirrorConf l.xs 97, OwnS x2.o4.v eMeterConf l.ms 95, OwnS x2.o3.v eRule l.us 57, OwnS x2.o2.v eRoute l.rs 60, OwnS x2.o1.v iE l.ps 3, Seps Emp x1.2, Var b1 eConf c 28]
    have hq1 : ((l.us.take j.toNat).map (fun r => r.match_)).length ≤ 256 := by simp; omega
    refine seq (sg (mv rfl (co (fA 2 (.t rfl)) ?_)))
    refine co (Ev.ldv ty24 (.t rfl) SConf.l_rules) ?_
    refine co (Ev.len Try.underlying24 (.t rfl) (fun w I => isSl_own (E := eRule) (v := x2.o3.v) (xs := l.us) (T := 57) (by repeat first | exact mH | apply mT | apply mA) w I)) ?_
    refine co (Ev.lss_i (.t rfl) (.t rfl)) ?_
    refine nP ?_
    first | refine condD rfl (fun h2 => ?_) (fun h2 => ?_) | refine cond rfl (fun h2 => ?_) (fun h2 => ?_)
    · try simp only [Gx.nb] at h2
      refine skip (pN (seq (block (region (mv rfl (co (fA 2 (.t rfl)) ?_))))))
      refine co (Ev.ldv ty24 (.t rfl) SConf.l_rules) ?_
      refine mv rfl (co (Ev.indexAddr Try.underlying24 ty57 (.t rfl) (.t rfl) (fun w I => isSl_own (E := eRule) (v := x2.o3.v) (xs := l.us) (T := 57) (by repeat first | exact mH | apply mT | apply mA) w I) (fun _ => by omega)) ?_)
      refine co (Ev.fieldAddrS (o := 1) (i := j) (.t rfl) (fun w I => isSl_own (E := eRule) (v := x2.o3.v) (xs := l.us) (T := 57) (by repeat first | exact mH | apply mT | apply mA) w I) (fun _ => by omega) (by kernel_rfl)) ?_
      refine co (Ev.loadS ty55 SRule.l_match_ rfl (.t rfl) (fun w I => isSl_own (E := eRule) (v := x2.o3.v) (xs := l.us) (T := 57) (by repeat first | exact mH | apply mT | apply mA) w I) (fun _ => by omega)) ?_
      refine cons (buildSlice (E := eMatch) Try.underlying81 ty55 z55 (.cons (.t rfl) .nil) rfl rfl (fun v3 => ?_))
      refine cons (app (E := eMatch) Try.underlying81 ty55 zb55 zs55 (.t rfl) (.t rfl) (fun v4 => ?_) (hby := ⟨by (show _ ≤ 9223372036854775807); first | omega | (simp; done) | (simp; omega), by first | omega | (simp; done) | (simp; omega)⟩))
      refine asn rfl (nil (bN (pN (region (mv rfl (co (Ev.add_i (.t rfl) (.c (v := I 1) rfl) (fun _ => by omega)) ?_))))))
      refine asn rfl (nP (nxP (X := Int × OV) (j + 1, _) ?_ ?_ (hL := (by rw [take_snoc l.us j hj.1 (by omega) eRule.zero, List.map_append]; repeat first | exact SubP.nil | refine SubP.cons (by repeat first | exact Rem.head | apply Rem.tail) ?_))))
      · try dsimp only
        omega
      · try dsimp only
        omega
    · try simp only [Gx.nb] at h2
      refine exit (pX (pX (bX (pN (seq ?_)))))
      have hq : (l.us.take j.toNat).map (fun r => r.match_) = mtL l := by rw [List.take_of_length_le (by omega)]; rfl
      rw [hq]
      refine region (mv rfl (emp0 ?_))
      refine cons (calln (X := Nat × List Res) (CompJ (mtL l)) (compV (mtL l)) (fun x => x.2) en20 (.cons (.t rfl) .nil) (fun w I => compile_ok _ (mtL l) w (io w I)) (fun xr hxr => ?_))
      refine mv rfl (co (Ev.to (v' := (ptrV xr.1).v) (Ev.extract (.t rfl) rfl) (congrArg Value.pointer (ptrO_ok xr.1 hcomp))) ?_)
      refine co (Ev.to (v' := I 0) (Ev.extract (.t rfl) rfl) (congrArg Gx.I hcomp)) ?_
      refine asn rfl (asn rfl (nP (seq (seq (takeSeps (r := Emp) Rem.head ?_)))))
      refine region (mv rfl (co (Ev.neq_i (.t rfl) (.c (v := I 0) rfl)) ?_))
      refine nP (condF rfl (rfl) ?_)
      refine skip (pN (sg (mv rfl (cons (callo en21 (.cons (.t rfl) .nil) (fun w I => dead_ok xr.1 (mtL l) w (ru_at (r := Emp) (hxr hcomp) (by repeat first | exact mH | apply mT | apply mA) w I) (by rw [mtL_len]; omega)) (fun v5 => ?_))))))
      refine asn rfl (nP (seq (sg (mv rfl (co (Ev.len Try.underlying22 (.t rfl) (by first | exact isSl_own (by repeat first | exact mH | apply mT | apply mA) | exact fun w I => IsSl.keep0 (by assumption) I.keeps)) ?_)))))
      refine co (Ev.sub_i (.t rfl) (.c (v := I 1) rfl) (fun _ => by omega)) ?_
      refine asn rfl (nP (block (arr (L' := [OwnS x2.o3.v eRule l.us 57, OwnS v5.v iE (deadB (mtL l)) 3, Var b2 eConf (⟨x2.o1, x2.o2, x2.o3, x2.o4, x2.o5, c.default⟩ : SConf) 28, OwnS x2.o5.v eMirrorConf l.xs 97, OwnS x2.o4.v eMeterConf l.ms 95, OwnS x2.o2.v eRoute l.rs 60, OwnS x2.o1.v iE l.ps 3, Seps Emp x1.2, Var b1 eConf c 28]) (by repeat first | exact SubP.nil | refine SubP.cons (by repeat first | exact Rem.head | apply Rem.tail) ?_) ?_)))
      refine lp (X := Int × OV × (List SRule)) (fun x : Int × OV × (List SRule) => (-1 ≤ x.1 ∧ x.1 < (deadB (mtL l)).length) ∧ (x.2.2 = delK l.us ((deadB (mtL l)).drop (x.1 + 1).toNat)) ∧ ((x.2.2.length : Int) + (deadB (mtL l)).length = l.us.length + (x.1 + 1))) (fun x : Int × OV × (List SRule) => [dz, (1, true, u), (2, true, I turn), (3, true, .pointer (some ⟨b1, 0, none⟩)), (7, true, .pointer (plO l c.default x1.1.b)), (9, true, .pointer (some ⟨b2, 0, none⟩)), (14, true, v5.v), (15, true, I x.1)]) (fun x : Int × OV × (List SRule) => [OwnS x.2.1.v eRule x.2.2 57, OwnS v5.v iE (deadB (mtL l)) 3, Var b2 eConf (⟨x2.o1, x2.o2, x.2.1, x2.o4, x2.o5, c.default⟩ : SConf) 28, OwnS x2.o5.v eMirrorConf l.xs 97, OwnS x2.o4.v eMeterConf l.ms 95, OwnS x2.o2.v eRoute l.rs 60, OwnS x2.o1.v iE l.ps 3, Seps Emp x1.2, Var b1 eConf c 28]) (fun x : Int × OV × (List SRule) => (x.1 + 1).toNat) (((deadB (mtL l)).length : Int) - 1, x2.o3, l.us) ⟨?_, ?_, ?_⟩ (fun x hx => ?_)
      · omega
      · rw [show ((((deadB (mtL l)).length : Int) - 1) + 1).toNat = (deadB (mtL l)).length by omega, List.drop_length]; rfl
      · show (l.us.length : Int) + (deadB (mtL l)).length = l.us.length + (((deadB (mtL l)).length : Int) - 1 + 1)
        omega
      obtain ⟨i1, qv, qs⟩ := x
      obtain ⟨hi1, hqs, hql⟩ : (-1 ≤ i1 ∧ i1 < (deadB (mtL l)).length) ∧ (qs = delK l.us ((deadB (mtL l)).drop (i1 + 1).toNat)) ∧ ((qs.length : Int) + (deadB (mtL l)).length = l.us.length + (i1 + 1)) := hx
      show Sat _ _ [dz, (1, true, u), (2, true, I turn), (3, true, .pointer (some ⟨b1, 0, none⟩)), (7, true, .pointer (plO l c.default x1.1.b)), (9, true, .pointer (some ⟨b2, 0, none⟩)), (14, true, v5.v), (15, true, I i1)] [OwnS qv.v eRule qs 57, OwnS v5.v iE (deadB (mtL l)) 3, Var b2 eConf (⟨x2.o1, x2.o2, qv, x2.o4, x2.o5, c.default⟩ : SConf) 28, OwnS x2.o5.v eMirrorConf l.xs 97, OwnS x2.o4.v eMeterConf l.ms 95, OwnS x2.o2.v eRoute l.rs 60, OwnS x2.o1.v iE l.ps 3, Seps Emp x1.2, Var b1 eConf c 28]
      refine seq (sg (mv rfl (co (Ev.geq_i (.t rfl) (.c (v := I 0) rfl)) ?_)))
      refine nP ?_
      first | refine condD rfl (fun h4 => ?_) (fun h4 => ?_) | refine cond rfl (fun h4 => ?_) (fun h4 => ?_)
      · try simp only [Gx.nb] at h4
        refine skip (pN (seq (block ?_)))
        have hmem := getD_in (deadB (mtL l)) i1.toNat iE.zero (by omega)
        have hrg := deadT_rng (mtL l) (mtL l).length _ hmem
        have hab := asc_bound (deadT_sorted (mtL l) (mtL l).length) (N := l.us.length) (fun x hx => by have := deadT_rng (mtL l) (mtL l).length x hx; rw [mtL_len] at this; omega) ((deadB (mtL l)).length - i1.toNat) i1.toNat (by unfold deadB; unfold deadB at hi1; omega) (by omega)
        obtain ⟨kk, hkk⟩ : ∃ z : Nat, (deadB (mtL l)).getD i1.toNat iE.zero = (z : Int) := ⟨((deadB (mtL l)).getD i1.toNat iE.zero).toNat, by omega⟩
        have hab : (deadB (mtL l)).getD i1.toNat iE.zero + (((deadB (mtL l)).length - i1.toNat : Nat) : Int) ≤ l.us.length := hab
        rw [hkk] at hab
        have hdr : (deadB (mtL l)).drop i1.toNat = (kk : Int) :: (deadB (mtL l)).drop (i1 + 1).toNat := by
          have e2 : (i1 + 1).toNat = i1.toNat + 1 := by omega
          have hil : i1.toNat < (deadB (mtL l)).length := by omega
          rw [e2, List.drop_eq_getElem_cons hil, ← hkk]
          simp [List.getD, hil]
        have htk : (qs.take kk ++ qs.drop (kk + 1) ++ qs.drop (kk + (qs.length - (kk + 1)))).take (kk + (qs.length - (kk + 1))) = qs.take kk ++ qs.drop (kk + 1) := by
          have hl9 : (qs.take kk ++ qs.drop (kk + 1)).length = (kk + (qs.length - (kk + 1))) := by simp; omega
          rw [← hl9]
          exact List.take_left
        refine know (fun w I => (isSl_own (E := eRule) (v := qv.v) (xs := qs) (T := 57) (by repeat first | exact mH | apply mT | apply mA) w I).shq) (fun hsh => ?_)
        refine draw [OwnS v5.v iE (deadB (mtL l)) 3] (by kernel_rfl) ?_
        refine tk 0 rfl (fA 2 (.t rfl)) ?_
        refine tk 2 rfl (Ev.move (.t rfl)) ?_
        refine tk 3 rfl (Ev.move (.t rfl)) ?_
        refine tk 4 rfl (Ev.indexAddr Try.underlying22 ty3 (.t rfl) (.t rfl) (by first | exact isSl_own (by repeat first | exact mH | apply mT | apply mA) | exact fun w I => IsSl.keep0 (by assumption) I.keeps) (fun _ => by omega)) ?_
        refine tk 5 rfl (Ev.to (v' := I ((kk : Nat) : Int)) (Ev.loadS0 ty3 (.t rfl) (by first | exact isSl_own (by repeat first | exact mH | apply mT | apply mA) | exact fun w I => IsSl.keep0 (by assumption) I.keeps) (fun _ => by omega)) (congrArg Gx.I hkk)) ?_
        refine tk 7 rfl (fA 2 (.t rfl)) ?_
        refine tk 9 rfl (Ev.move (.t rfl)) ?_
        refine tk 10 rfl (Ev.move (.t rfl)) ?_
        refine tk 11 rfl (Ev.indexAddr Try.underlying22 ty3 (.t rfl) (.t rfl) (by first | exact isSl_own (by repeat first | exact mH | apply mT | apply mA) | exact fun w I => IsSl.keep0 (by assumption) I.keeps) (fun _ => by omega)) ?_
        refine tk 12 rfl (Ev.to (v' := I ((kk : Nat) : Int)) (Ev.loadS0 ty3 (.t rfl) (by first | exact isSl_own (by repeat first | exact mH | apply mT | apply mA) | exact fun w I => IsSl.keep0 (by assumption) I.keeps) (fun _ => by omega)) (congrArg Gx.I hkk)) ?_
        refine tk 13 rfl (Ev.to (v' := I (((kk + 1 : Nat)) : Int)) (Ev.add_i (.t rfl) (.c (v := I 1) rfl) (fun _ => by omega)) (congrArg Gx.I (by omega))) ?_
        refine all [1, 8] (by kernel_rfl) (by decide) (.cons rfl ?_ (.cons rfl ?_ .nil))
        · refine (opv (Ev.to (v' := qv.v) (Ev.ldv ty24 (.t rfl) SConf.l_rules) (rfl)) ?_)
          refine hdn (tk 6 rfl (Ev.sliceHS Try.underlying24 ty57 (.t rfl) (.t rfl) hsh (fun _ => by omega)) ?_)
          refine al1 8 rfl ((opv (Ev.to (v' := qv.v) (Ev.ldv ty24 (.t rfl) SConf.l_rules) (rfl)) ?_))
          refine hdn (tk 14 rfl (Ev.sliceLS Try.underlying24 ty57 (.t rfl) (.t rfl) hsh (fun _ => by omega)) ?_)
          refine al1 15 rfl ((appendCut (E := eRule) (k := kk) (l := kk + 1) Try.underlying24 ty57 (.t rfl) (.t rfl) (by repeat first | exact Upd.head | apply Upd.tail | apply Upd.right) ⟨by omega, by omega⟩ ?_))
          refine hdn (tk 16 rfl (fA 2 (.t rfl)) ?_)
          refine al1 17 rfl ((stv ty24 SConf.l_rules (.t rfl) (.t (v := (OV.sub eRule.size qv 0 (kk + (qs.length - (kk + 1)))).v) rfl) ?_))
          refine hdn (ovr (bN (pN (region (cutOwn (E := eRule) (kk + (qs.length - (kk + 1))) (by repeat first | exact Upd.head | apply Upd.tail | apply Upd.right) (by simp; omega) ?_)))))
          rw [htk]
          refine mv rfl (co (Ev.sub_i (.t rfl) (.c (v := I 1) rfl) (fun _ => by omega)) ?_)
          refine asn rfl (nP (nxP (X := Int × OV × (List SRule)) (i1 - 1, OV.sub eRule.size qv 0 (kk + (qs.length - (kk + 1))), _) ⟨?_, ?_, ?_⟩ ?_))
          · try dsimp only
            omega
          · try dsimp only
            rw [show i1 - 1 + 1 = i1 by omega, hdr]
            show _ = (delK l.us ((deadB (mtL l)).drop (i1 + 1).toNat)).take ((kk : Int)).toNat ++ (delK l.us ((deadB (mtL l)).drop (i1 + 1).toNat)).drop ((kk : Int) + 1).toNat
            rw [← hqs, show ((kk : Int)).toNat = kk by omega, show ((kk : Int) + 1).toNat = kk + 1 by omega]
          · try dsimp only
            simp only [List.length_append, List.length_take, List.length_drop]
            omega
          · try dsimp only
            omega
        · refine (opv (Ev.to (v' := qv.v) (Ev.ldv ty24 (.t rfl) SConf.l_rules) (rfl)) ?_)
          refine hdn (tk 14 rfl (Ev.sliceLS Try.underlying24 ty57 (.t rfl) (.t rfl) hsh (fun _ => by omega)) ?_)
          refine al1 1 rfl ((opv (Ev.to (v' := qv.v) (Ev.ldv ty24 (.t rfl) SConf.l_rules) (rfl)) ?_))
          refine hdn (tk 6 rfl (Ev.sliceHS Try.underlying24 ty57 (.t rfl) (.t rfl) hsh (fun _ => by omega)) ?_)
          refine al1 15 rfl ((appendCut (E := eRule) (k := kk) (l := kk + 1) Try.underlying24 ty57 (.t rfl) (.t rfl) (by repeat first | exact Upd.head | apply Upd.tail | apply Upd.right) ⟨by omega, by omega⟩ ?_))
          refine hdn (tk 16 rfl (fA 2 (.t rfl)) ?_)
          refine al1 17 rfl ((stv ty24 SConf.l_rules (.t rfl) (.t (v := (OV.sub eRule.size qv 0 (kk + (qs.length - (kk + 1)))).v) rfl) ?_))
          refine hdn (ovr (bN (pN (region (cutOwn (E := eRule) (kk + (qs.length - (kk + 1))) (by repeat first | exact Upd.head | apply Upd.tail | apply Upd.right) (by simp; omega) ?_)))))
          rw [htk]
          refine mv rfl (co (Ev.sub_i (.t rfl) (.c (v := I 1) rfl) (fun _ => by omega)) ?_)
          refine asn rfl (nP (nxP (X := Int × OV × (List SRule)) (i1 - 1, OV.sub eRule.size qv 0 (kk + (qs.length - (kk + 1))), _) ⟨?_, ?_, ?_⟩ ?_))
          · try dsimp only
            omega
          · try dsimp only
            rw [show i1 - 1 + 1 = i1 by omega, hdr]
            show _ = (delK l.us ((deadB (mtL l)).drop (i1 + 1).toNat)).take ((kk : Int)).toNat ++ (delK l.us ((deadB (mtL l)).drop (i1 + 1).toNat)).drop ((kk : Int) + 1).toNat
            rw [← hqs, show ((kk : Int)).toNat = kk by omega, show ((kk : Int) + 1).toNat = kk + 1 by omega]
          · try dsimp only
            simp only [List.length_append, List.length_take, List.length_drop]
            omega
          · try dsimp only
            omega
      · try simp only [Gx.nb] at h4
        refine exit (pX (pX (bX (pN (cut (X := OV × (List SRoute)) (fun x : OV × (List SRoute) => (x.2.Perm l.rs)) (fun x : OV × (List SRoute) => [dz, (1, true, u), (2, true, I turn), (3, true, .pointer (some ⟨b1, 0, none⟩)), (7, true, .pointer (plO l c.default x1.1.b)), (9, true, .pointer (some ⟨b2, 0, none⟩))]) (fun x : OV × (List SRoute) => [OwnS x.1.v eRoute x.2 60, Var b2 eConf (⟨x2.o1, x.1, qv, x2.o4, x2.o5, c.default⟩ : SConf) 28, OwnS qv.v eRule (aliveU l) 57, OwnS x2.o5.v eMirrorConf l.xs 97, OwnS x2.o4.v eMeterConf l.ms 95, OwnS x2.o1.v iE l.ps 3, Seps Emp x1.2, Var b1 eConf c 28]) ?_ (fun x hx => ?_))))))
        · refine seq ?_
          have e1 : (i1 + 1).toNat = 0 := by omega
          have hal : qs = aliveU l := by rw [hqs, e1, List.drop_zero, del_alive]
          subst hal
          refine region (co (fA 1 (.t rfl)) ?_)
          refine co (Ev.to (v' := x2.o2.v) (Ev.ldv ty23 (.t rfl) SConf.l_routes) (rfl)) ?_
          refine co (Ev.len Try.underlying23 (.t rfl) (by first | exact isSl_own (by repeat first | exact mH | apply mT | apply mA) | exact fun w I => IsSl.keep0 (by assumption) I.keeps)) ?_
          refine asn rfl (nP (sg (mv rfl (co (Ev.gtr_i (.t rfl) (.c (v := I 0) rfl)) ?_))))
          refine nP ?_
          first | refine condD rfl (fun h5 => ?_) (fun h5 => ?_) | refine cond rfl (fun h5 => ?_) (fun h5 => ?_)
          · try simp only [Gx.nb] at h5
            refine seq ?_
            have ht1 := Int.lt_tmod_of_pos turn (show (0 : Int) < l.rs.length by omega)
            have ht2 := Int.tmod_lt_of_pos turn (show (0 : Int) < l.rs.length by omega)
            have hm1 := Int.emod_nonneg (turn.tmod l.rs.length + l.rs.length) (show (l.rs.length : Int) ≠ 0 by omega)
            have hm2 := Int.emod_lt_of_pos (turn.tmod l.rs.length + l.rs.length) (show (0 : Int) < l.rs.length by omega)
            obtain ⟨kz, hkz⟩ : ∃ z : Nat, (turn.tmod l.rs.length + l.rs.length) % l.rs.length = (z : Int) := ⟨((turn.tmod l.rs.length + l.rs.length) % l.rs.length).toNat, by omega⟩
            rw [hkz] at hm1 hm2
            refine region (mv rfl (mv rfl (co (Ev.rem_i (.t rfl) (.t rfl) (fun _ => by omega)) ?_)))
            refine mv rfl (co (Ev.add_i (.t rfl) (.t rfl) (fun _ => by omega)) ?_)
            refine mv rfl (co (Ev.to (v' := I (kz : Int)) (Ev.rem_n (.t rfl) (.t rfl) (fun _ => by omega) (fun _ => by omega)) (congrArg Gx.I hkz)) ?_)
            refine asn rfl (nP (sg (co (Ev.assign (.c (v := (Go.Value.slice none 0 0)) rfl)) ?_)))
            refine takeNil eRoute 60 ?_
            refine nP (draw [OwnS x2.o2.v eRoute l.rs 60] (by kernel_rfl) ?_)
            refine tk 0 rfl (Ev.move (.t rfl)) ?_
            refine tk 1 rfl (fA 1 (.t rfl)) ?_
            refine tk 3 rfl (Ev.move (.t rfl)) ?_
            refine tk 6 rfl (fA 1 (.t rfl)) ?_
            refine tk 8 rfl (Ev.move (.t rfl)) ?_
            refine all [2, 7] (by kernel_rfl) (by decide) (.cons rfl ?_ (.cons rfl ?_ .nil))
            · refine (opv (Ev.to (v' := x2.o2.v) (Ev.ldv ty23 (.t rfl) SConf.l_routes) (rfl)) ?_)
              refine hdn (tk 4 rfl (Ev.sliceL Try.underlying23 ty60 (.t rfl) (.t rfl) (fun w I => isSl_own (E := eRoute) (v := x2.o2.v) (xs := l.rs) (T := 60) (by repeat first | exact mH | apply mT | apply mA) w I) (fun _ => by omega)) ?_)
              refine all [5, 7] (by kernel_rfl) (by decide) (.cons rfl ?_ (.cons rfl ?_ .nil))
              · refine (app (E := eRoute) Try.underlying23 ty60 zb60 zs60 (.t rfl) (.t rfl) (fun v6 => ?_) (hsrc := (fun w I => IsSl.sub (w := w) (isSl_own (E := eRoute) (v := x2.o2.v) (xs := l.rs) (T := 60) (by repeat first | exact mH | apply mT | apply mA) w I) (by omega) (by omega))) (hby := ⟨by (show _ ≤ 9223372036854775807); first | omega | (simp; done) | (simp; omega), by first | omega | (simp; done) | (simp; omega)⟩))
                refine hdn (al1 7 rfl ((opv (Ev.to (v' := x2.o2.v) (Ev.ldv ty23 (.t rfl) SConf.l_routes) (rfl)) ?_)))
                refine hdn (tk 9 rfl (Ev.sliceH Try.underlying23 ty60 (.t rfl) (.t rfl) (fun w I => isSl_own (E := eRoute) (v := x2.o2.v) (xs := l.rs) (T := 60) (by repeat first | exact mH | apply mT | apply mA) w I) (fun _ => by omega)) ?_)
                refine al1 10 rfl ((app (E := eRoute) Try.underlying23 ty60 zb60 zs60 (.t rfl) (.t rfl) (fun v7 => ?_) (hsrc := (fun w I => IsSl.sub (w := w) (isSl_own (E := eRoute) (v := x2.o2.v) (xs := l.rs) (T := 60) (by repeat first | exact mH | apply mT | apply mA) w I) (by omega) (by omega))) (hby := ⟨by (show _ ≤ 9223372036854775807); first | omega | (simp; done) | (simp; omega), by first | omega | (simp; done) | (simp; omega)⟩)))
                refine hdn (tk 11 rfl (fA 1 (.t rfl)) ?_)
                refine al1 12 rfl ((stv ty23 SConf.l_routes (.t rfl) (.t rfl) ?_))
                refine hdn (ovr (pN (mtP (X := OV × (List SRoute)) (_, _) ?_)))
                · try dsimp only
                  first | exact List.Perm.refl _ | (simp only [List.nil_append, List.take_length, List.drop_zero]; refine List.perm_append_comm.trans ?_; rw [show ((kz : Nat) : Int).toNat = kz by omega, List.take_append_drop])
              · refine (opv (Ev.to (v' := x2.o2.v) (Ev.ldv ty23 (.t rfl) SConf.l_routes) (rfl)) ?_)
                refine hdn (tk 9 rfl (Ev.sliceH Try.underlying23 ty60 (.t rfl) (.t rfl) (fun w I => isSl_own (E := eRoute) (v := x2.o2.v) (xs := l.rs) (T := 60) (by repeat first | exact mH | apply mT | apply mA) w I) (fun _ => by omega)) ?_)
                refine al1 5 rfl ((app (E := eRoute) Try.underlying23 ty60 zb60 zs60 (.t rfl) (.t rfl) (fun v8 => ?_) (hsrc := (fun w I => IsSl.sub (w := w) (isSl_own (E := eRoute) (v := x2.o2.v) (xs := l.rs) (T := 60) (by repeat first | exact mH | apply mT | apply mA) w I) (by omega) (by omega))) (hby := ⟨by (show _ ≤ 9223372036854775807); first | omega | (simp; done) | (simp; omega), by first | omega | (simp; done) | (simp; omega)⟩)))
                refine hdn (al1 10 rfl ((app (E := eRoute) Try.underlying23 ty60 zb60 zs60 (.t rfl) (.t rfl) (fun v9 => ?_) (hsrc := (fun w I => IsSl.sub (w := w) (isSl_own (E := eRoute) (v := x2.o2.v) (xs := l.rs) (T := 60) (by repeat first | exact mH | apply mT | apply mA) w I) (by omega) (by omega))) (hby := ⟨by (show _ ≤ 9223372036854775807); first | omega | (simp; done) | (simp; omega), by first | omega | (simp; done) | (simp; omega)⟩))))
                refine hdn (tk 11 rfl (fA 1 (.t rfl)) ?_)
                refine al1 12 rfl ((stv ty23 SConf.l_routes (.t rfl) (.t rfl) ?_))
                refine hdn (ovr (pN (mtP (X := OV × (List SRoute)) (_, _) ?_)))
                · try dsimp only
                  first | exact List.Perm.refl _ | (simp only [List.nil_append, List.take_length, List.drop_zero]; refine List.perm_append_comm.trans ?_; rw [show ((kz : Nat) : Int).toNat = kz by omega, List.take_append_drop])
            · refine (opv (Ev.to (v' := x2.o2.v) (Ev.ldv ty23 (.t rfl) SConf.l_routes) (rfl)) ?_)
              refine hdn (tk 9 rfl (Ev.sliceH Try.underlying23 ty60 (.t rfl) (.t rfl) (fun w I => isSl_own (E := eRoute) (v := x2.o2.v) (xs := l.rs) (T := 60) (by repeat first | exact mH | apply mT | apply mA) w I) (fun _ => by omega)) ?_)
              refine al1 2 rfl ((opv (Ev.to (v' := x2.o2.v) (Ev.ldv ty23 (.t rfl) SConf.l_routes) (rfl)) ?_))
              refine hdn (tk 4 rfl (Ev.sliceL Try.underlying23 ty60 (.t rfl) (.t rfl) (fun w I => isSl_own (E := eRoute) (v := x2.o2.v) (xs := l.rs) (T := 60) (by repeat first | exact mH | apply mT | apply mA) w I) (fun _ => by omega)) ?_)
              refine al1 5 rfl ((app (E := eRoute) Try.underlying23 ty60 zb60 zs60 (.t rfl) (.t rfl) (fun v10 => ?_) (hsrc := (fun w I => IsSl.sub (w := w) (isSl_own (E := eRoute) (v := x2.o2.v) (xs := l.rs) (T := 60) (by repeat first | exact mH | apply mT | apply mA) w I) (by omega) (by omega))) (hby := ⟨by (show _ ≤ 9223372036854775807); first | omega | (simp; done) | (simp; omega), by first | omega | (simp; done) | (simp; omega)⟩)))
              refine hdn (al1 10 rfl ((app (E := eRoute) Try.underlying23 ty60 zb60 zs60 (.t rfl) (.t rfl) (fun v11 => ?_) (hsrc := (fun w I => IsSl.sub (w := w) (isSl_own (E := eRoute) (v := x2.o2.v) (xs := l.rs) (T := 60) (by repeat first | exact mH | apply mT | apply mA) w I) (by omega) (by omega))) (hby := ⟨by (show _ ≤ 9223372036854775807); first | omega | (simp; done) | (simp; omega), by first | omega | (simp; done) | (simp; omega)⟩))))
              refine hdn (tk 11 rfl (fA 1 (.t rfl)) ?_)
              refine al1 12 rfl ((stv ty23 SConf.l_routes (.t rfl) (.t rfl) ?_))
              refine hdn (ovr (pN (mtP (X := OV × (List SRoute)) (_, _) ?_)))
              · try dsimp only
                first | exact List.Perm.refl _ | (simp only [List.nil_append, List.take_length, List.drop_zero]; refine List.perm_append_comm.trans ?_; rw [show ((kz : Nat) : Int).toNat = kz by omega, List.take_append_drop])
          · try simp only [Gx.nb] at h5
            refine skip (pN (mtP (X := OV × (List SRoute)) (_, _) ?_))
            · try dsimp only
              first | exact List.Perm.refl _ | (simp only [List.nil_append, List.take_length, List.drop_zero]; refine List.perm_append_comm.trans ?_; rw [show ((kz : Nat) : Int).toNat = kz by omega, List.take_append_drop])
        obtain ⟨ro, rs2⟩ := x
        have hperm : rs2.Perm l.rs := hx
        clear hx
        show Sat _ _ [dz, (1, true, u), (2, true, I turn), (3, true, .pointer (some ⟨b1, 0, none⟩)), (7, true, .pointer (plO l c.default x1.1.b)), (9, true, .pointer (some ⟨b2, 0, none⟩))] [OwnS ro.v eRoute rs2 60, Var b2 eConf (⟨x2.o1, ro, qv, x2.o4, x2.o5, c.default⟩ : SConf) 28, OwnS qv.v eRule (aliveU l) 57, OwnS x2.o5.v eMirrorConf l.xs 97, OwnS x2.o4.v eMeterConf l.ms 95, OwnS x2.o1.v iE l.ps 3, Seps Emp x1.2, Var b1 eConf c 28]
        refine seq ?_
        have hmay2 := spared_may hmay hperm
        have hn2 : (sparedL l rs2).Names := ⟨fun x hx => hn.1 x ((alive_sub l).subset hx), hn.2, hn.3⟩
        have hz2 : (sparedL l rs2).n ≤ 4611686018427387904 := by
          have := (alive_sub l).length_le
          have := hperm.length_eq
          show l.ps.length + rs2.length + (aliveU l).length + l.ms.length + l.xs.length ≤ _
          omega
        refine region (co (Ev.to (v' := eConf.val ((⟨x2.o1, ro, qv, x2.o4, x2.o5⟩ : CB).c c.default)) (Ev.ldv ty28 (.t rfl) (Lens.id _)) (rfl)) ?_)
        refine cons (calln (X := Pl × List Res) (CompileJ (sparedL l rs2) c.default) (fun x : Pl × List Res => .tuple #[.pointer (plO (sparedL l rs2) c.default x.1.b), I (plE (sparedL l rs2) c.default)]) (fun x => x.2) en8 (.cons (.t rfl) .nil) (fun w I => compile_plan ((⟨x2.o1, ro, qv, x2.o4, x2.o5⟩ : CB).c c.default) (sparedL l rs2) w (co5 (x := (⟨x2.o1, ro, qv, x2.o4, x2.o5⟩ : CB)) (l := (sparedL l rs2)) w I) hn2 hz2) (fun x3 hx3 => ?_))
        refine mv rfl (co (Ev.to (v' := .pointer (some ⟨x3.1.b, 0, none⟩)) (Ev.extract (.t rfl) rfl) (congrArg Value.pointer (if_pos hmay2))) ?_)
        refine co (Ev.to (v' := I 0) (Ev.extract (.t rfl) rfl) (congrArg Gx.I (if_pos hmay2))) ?_
        refine asn rfl (asn rfl (nP (seq (seq (takeSeps (r := Seps Emp x1.2) (by repeat first | exact Rem.head | apply Rem.tail) ?_)))))
        obtain ⟨hqo, hqa⟩ := hx3 hmay2
        refine region (mv rfl (co (Ev.neq_i (.t rfl) (.c (v := I 0) rfl)) ?_))
        refine nP (condF rfl (rfl) ?_)
        refine skip (pN (seq (sg (co (Ev.assign (.c (v := I 0) rfl)) ?_))))
        refine nP (block (lp (X := Int) (fun x : Int => (0 ≤ x ∧ x ≤ xs.length)) (fun x : Int => [dz, (1, true, u), (2, true, I turn), (3, true, .pointer (some ⟨b1, 0, none⟩)), (7, true, .pointer (plO l c.default x1.1.b)), (19, true, .pointer (some ⟨x3.1.b, 0, none⟩)), (21, true, I x)]) (fun x : Int => [Seps (Seps Emp x1.2) x3.2, Var b1 eConf c 28]) (fun x : Int => ((xs.length : Int) - x).toNat) (0) ?_ (fun x hx => ?_)))
        · omega
        obtain ⟨i, rfl⟩ : ∃ y, y = x := ⟨x, rfl⟩
        have hi : 0 ≤ i ∧ i ≤ xs.length := hx
        clear hx
        show Sat _ _ [dz, (1, true, u), (2, true, I turn), (3, true, .pointer (some ⟨b1, 0, none⟩)), (7, true, .pointer (plO l c.default x1.1.b)), (19, true, .pointer (some ⟨x3.1.b, 0, none⟩)), (21, true, I i)] [Seps (Seps Emp x1.2) x3.2, Var b1 eConf c 28]
        refine seq (sg (mv rfl (mv rfl (co (Ev.len Try.underlying29 (.t rfl) (fun w I => hu.keep0 I.keeps)) ?_))))
        refine co (Ev.lss_i (.t rfl) (.t rfl)) ?_
        refine mv rfl (cg rfl rfl (Ev.move (.t rfl)) ?_)
        refine cg rfl rfl (Ev.lss_i (.g rfl id) (.c (v := I 60) rfl)) ?_
        refine co (Ev.pkA (.t rfl) rfl) ?_
        refine nP ?_
        first | refine condD rfl (fun h7 => ?_) (fun h7 => ?_) | refine cond rfl (fun h7 => ?_) (fun h7 => ?_)
        · try simp only [Gx.nb] at h7
          refine skip (pN (seq (block (sg (mv rfl (mv rfl (co (Ev.indexAddr Try.underlying29 ty44 (.t rfl) (.t rfl) (fun w I => hu.keep0 I.keeps) (fun _ => by omega)) ?_)))))))
          refine co (Ev.loadS0 ty44 (.t rfl) (fun w I => hu.keep0 I.keeps) (fun _ => by omega)) ?_
          refine cons (alloc z44 (fun b12 => ?_))
          refine cons (stv ty44 (Lens.id _) (.t rfl) (.t rfl) ?_)
          refine nP (seq ?_)
          obtain ⟨V, hV⟩ : ∃ z, dvV l c.default (xs.getD i.toNat eLaw22Came.zero).in_ (xs.getD i.toNat eLaw22Came.zero).h (dts.getD i.toNat []).length = z := ⟨_, rfl⟩
          obtain ⟨E0, hE⟩ : ∃ z, deE (xs.getD i.toNat eLaw22Came.zero).h (dts.getD i.toNat []).length = z := ⟨_, rfl⟩
          refine region (co (Ev.to (v' := .pointer (some ⟨x1.1.b, 0, none⟩)) (Ev.move (.t rfl)) (congrArg Value.pointer (if_pos hmay))) ?_)
          refine co (fA 0 (.t rfl)) ?_
          refine co (Ev.ldv ty3 (.t rfl) SLaw22Came.l_in_) ?_
          refine co (fA 1 (.t rfl)) ?_
          refine co (Ev.ldv ty42 (.t rfl) SLaw22Came.l_h) ?_
          refine cons (callv en9 (.cons (.t rfl) (.cons (.t rfl) (.cons (.t rfl) .nil))) (fun w I => decide_to x1.1 l c.default _ _ (dts.getD i.toNat []) V E0 w (pl_at2 hpa (by repeat first | exact mH | apply mT | apply mA) w I) hpo ((hpk.sl _ (by omega)).keep0 I.keeps) (hpk.ln _ (by omega)) hV hE) ?_)
          refine mv rfl (co (Ev.extract (.t rfl) rfl) (co (Ev.extract (.t rfl) rfl) (cons (alloc z46 (fun b13 => ?_)))))
          refine cons (stv ty46 (Lens.id _) (.t rfl) (.t rfl) ?_)
          refine asn rfl (nP (sg ?_))
          have h8F : (((decide (E0 = 0) && decide (0 ≤ (xs.getD i.toNat eLaw22Came.zero).in_)) && decide ((xs.getD i.toNat eLaw22Came.zero).in_ ≤ 255)) && !likeV l c.default (sparedL l rs2) c.default (xs.getD i.toNat eLaw22Came.zero).in_ (xs.getD i.toNat eLaw22Came.zero).h (dts.getD i.toNat []).length) = false := by
            by_cases hb : E0 = 0 ∧ 0 ≤ (xs.getD i.toNat eLaw22Came.zero).in_ ∧ (xs.getD i.toNat eLaw22Came.zero).in_ ≤ 255
            · rw [spared_like hmay hperm (hE.trans hb.1) hb.2]
              simp
            · have hb2 : (decide (E0 = 0) && decide (0 ≤ (xs.getD i.toNat eLaw22Came.zero).in_) && decide ((xs.getD i.toNat eLaw22Came.zero).in_ ≤ 255)) = false := by
                rw [Bool.eq_false_iff]
                intro h9
                simp only [Bool.and_eq_true, decide_eq_true_eq] at h9
                exact hb ⟨h9.1.1, h9.1.2, h9.2⟩
              rw [hb2]
              rfl
          refine mv rfl (co (Ev.eql_i (.t rfl) (.c (v := I 0) rfl)) ?_)
          refine mv rfl (cg rfl rfl (fA 0 (.t rfl)) ?_)
          refine cg rfl rfl (Ev.ldv ty3 (.g rfl id) SLaw22Came.l_in_) ?_
          refine cg rfl rfl (Ev.geq_i (.g rfl id) (.c (v := I 0) rfl)) ?_
          refine co (Ev.pkA (.t rfl) rfl) ?_
          refine mv rfl (cg rfl rfl (fA 0 (.t rfl)) ?_)
          refine cg rfl rfl (Ev.ldv ty3 (.g rfl id) SLaw22Came.l_in_) ?_
          refine cg rfl rfl (Ev.leq_i (.g rfl id) (.c (v := I 255) rfl)) ?_
          refine co (Ev.pkA (.t rfl) rfl) ?_
          refine mv rfl (cg rfl rfl (Ev.to (v' := .pointer (some ⟨x1.1.b, 0, none⟩)) (Ev.move (.t rfl)) (congrArg Value.pointer (if_pos hmay))) ?_)
          refine cg rfl rfl (Ev.move (.t rfl)) ?_
          refine cg rfl rfl (fA 0 (.t rfl)) ?_
          refine cg rfl rfl (Ev.ldv ty3 (.g rfl id) SLaw22Came.l_in_) ?_
          refine cg rfl rfl (fA 1 (.t rfl)) ?_
          refine cg rfl rfl (Ev.ldv ty42 (.g rfl id) SLaw22Came.l_h) ?_
          refine cons (callg rfl rfl en19 (.cons (.g rfl id) (.cons (.g rfl id) (.cons (.g rfl id) (.cons (.g rfl id) .nil)))) (fun hg w I => like_ok x1.1 x3.1 l (sparedL l rs2) c.default c.default _ _ (dts.getD i.toNat []) w (pl_at2 hpa (by repeat first | exact mH | apply mT | apply mA) w I) (pl_at hqa (by repeat first | exact mH | apply mT | apply mA) w I) hpo hqo ((hpk.sl _ (by omega)).keep0 I.keeps) (hpk.ln _ (by omega))) ?_)
          refine cg rfl rfl (Ev.not (.g rfl id)) ?_
          refine co (Ev.pkA (.t rfl) rfl) ?_
          refine nP (condF rfl (h8F) ?_)
          refine skip (bN (pN (region (mv rfl (co (Ev.add_i (.t rfl) (.c (v := I 1) rfl) (fun _ => by omega)) ?_)))))
          refine asn rfl (nP (nx (X := Int) (i + 1) ?_ ?_))
          · try dsimp only
            omega
          · try dsimp only
            omega
        · try simp only [Gx.nb] at h7
          refine exit (pX (pX (bX (pN (sg (co (Ev.assign (.c (v := .bool true) rfl)) ?_))))))
          refine nP (ret (done rfl (.tmp rfl .nil) (retE ?_)))
          rfl
end Go.Proofs.Ytmdkmclgfgaahaa
