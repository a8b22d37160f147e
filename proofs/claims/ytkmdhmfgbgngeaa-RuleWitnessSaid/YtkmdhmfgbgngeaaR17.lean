/- rule -/
import Derived.Test.YtkmdhmfgbgngeaaR16
import Derived.Test.YtkmdhmfgbgngeaaR14
set_option linter.unusedVariables false
set_option linter.unusedSimpArgs false
namespace Go.Proofs.Ytkmdhmfgbgngeaa
open Go Go.Gx

theorem firstF_spec (q : SMatch → Bool) : ∀ (l : List SMatch) (k : Int), (firstF q l k = -1 ∧ ∀ j : Nat, j < l.length → q (l.getD j eMatch.zero) = false) ∨ ∃ p : Nat, firstF q l k = k + p ∧ p < l.length ∧ q (l.getD p eMatch.zero) = true ∧ ∀ j : Nat, j < p → q (l.getD j eMatch.zero) = false
  | [], k => .inl ⟨rfl, fun j h => absurd h (Nat.not_lt_zero _)⟩
  | m :: l, k => by
    cases hm : q m with
    | true => exact .inr ⟨0, by simp [firstF, hm], by simp, by simpa [List.getD] using hm, fun j h => absurd h (Nat.not_lt_zero _)⟩
    | false =>
      have e : firstF q (m :: l) k = firstF q l (k + 1) := by simp [firstF, hm]
      rw [e]
      rcases firstF_spec q l (k + 1) with ⟨h1, h2⟩ | ⟨p, h1, h2, h3, h4⟩
      · refine .inl ⟨h1, fun j hj => ?_⟩
        cases j with
        | zero => simpa [List.getD] using hm
        | succ j => simpa [List.getD] using h2 j (by simpa using hj)
      · refine .inr ⟨p + 1, by rw [h1]; omega, by simp; omega, by simpa [List.getD] using h3, fun j hj => ?_⟩
        cases j with
        | zero => simpa [List.getD] using hm
        | succ j => simpa [List.getD] using h4 j (by omega)
def idxs (l : List SMatch) (n : Nat) : List Nat := (List.range n).filter fun k => !deadAt l k
def alT (l : List SMatch) (n : Nat) : List SMatch := (idxs l n).map fun k => l.getD k eMatch.zero
def plT (l : List SMatch) (n : Nat) : List Int := (idxs l n).map fun k : Nat => (k : Int)
theorem idxs_step (l : List SMatch) (n : Nat) : idxs l (n + 1) = bif deadAt l n then idxs l n else idxs l n ++ [n] := by
  unfold idxs
  rw [List.range_succ, List.filter_append]
  cases h : deadAt l n <;> simp [h]
theorem idxs_len (l : List SMatch) (n : Nat) : (idxs l n).length ≤ n := Nat.le_trans (List.length_filter_le _ _) (by simp)
theorem idxs_mem {l : List SMatch} {n k : Nat} : k ∈ idxs l n ↔ k < n ∧ deadAt l k = false := by
  unfold idxs
  simp
theorem idxs_sorted (l : List SMatch) (n : Nat) : (idxs l n).Pairwise (· < ·) := List.Pairwise.filter _ List.pairwise_lt_range
theorem alT_get (l : List SMatch) (n p : Nat) (h : p < (idxs l n).length) : (alT l n).getD p eMatch.zero = l.getD (idxs l n)[p] eMatch.zero := by simp [alT, List.getD, h]
theorem plT_get (l : List SMatch) (n p : Nat) (h : p < (idxs l n).length) : (plT l n).getD p 0 = ((idxs l n)[p] : Int) := by simp [plT, List.getD, h]
theorem alT_len (l : List SMatch) (n : Nat) : (alT l n).length = (idxs l n).length := by simp [alT]
theorem plT_len (l : List SMatch) (n : Nat) : (plT l n).length = (idxs l n).length := by simp [plT]
theorem order_law (q : SMatch → Bool) (l : List SMatch) (hnd : ∀ p : Nat, p < l.length → q (l.getD p eMatch.zero) = true → (∀ j : Nat, j < p → q (l.getD j eMatch.zero) = false) → deadAt l p = false) :
    (firstF q (alT l l.length) 0 = -1 ∧ firstF q l 0 = -1) ∨ ∃ n : Nat, firstF q (alT l l.length) 0 = n ∧ n < (plT l l.length).length ∧ (plT l l.length).getD n 0 = firstF q l 0 ∧ 0 ≤ firstF q l 0 := by
  rcases firstF_spec q (alT l l.length) 0 with ⟨h1, h2⟩ | ⟨n, h1, h2, h3, h4⟩
  · rcases firstF_spec q l 0 with ⟨g1, _⟩ | ⟨p, g1, g2, g3, g4⟩
    · exact .inl ⟨h1, g1⟩
    · exfalso
      have hm : p ∈ idxs l l.length := idxs_mem.2 ⟨g2, hnd p g2 g3 g4⟩
      obtain ⟨r, hr, hp⟩ := List.mem_iff_getElem.1 hm
      have := h2 r (by rw [alT_len]; exact hr)
      rw [alT_get l _ r hr, hp, g3] at this
      cases this
  · right
    have hn : n < (idxs l l.length).length := by rw [alT_len] at h2; exact h2
    rw [alT_get l _ n hn] at h3
    refine ⟨n, by rw [h1]; omega, by rw [plT_len]; exact hn, ?_, ?_⟩
    · rw [plT_get l _ n hn]
      rcases firstF_spec q l 0 with ⟨g1, g2⟩ | ⟨p, g1, g2, g3, g4⟩
      · have hlt := (idxs_mem.1 (List.getElem_mem hn)).1
        rw [g2 _ hlt] at h3
        cases h3
      · have hm : p ∈ idxs l l.length := idxs_mem.2 ⟨g2, hnd p g2 g3 g4⟩
        obtain ⟨r, hr, hp⟩ := List.mem_iff_getElem.1 hm
        have hge : p ≤ (idxs l l.length)[n] := by
          rcases Nat.lt_or_ge (idxs l l.length)[n] p with h | h
          · rw [g4 _ h] at h3; cases h3
          · exact h
        have hrn : n ≤ r := by
          rcases Nat.lt_or_ge r n with h | h
          · have h5 := h4 r h
            rw [alT_get l _ r hr, hp, g3] at h5
            cases h5
          · exact h
        have hle : (idxs l l.length)[n] ≤ p := by
          rcases Nat.lt_or_ge n r with h | h
          · have := List.pairwise_iff_getElem.1 (idxs_sorted l l.length) n r hn hr h
            omega
          · have e : n = r := by omega
            subst e
            omega
        rw [g1]
        omega
    · rcases firstF_spec q l 0 with ⟨g1, g2⟩ | ⟨p, g1, g2, g3, g4⟩
      · have hlt := (idxs_mem.1 (List.getElem_mem hn)).1
        rw [g2 _ hlt] at h3
        cases h3
      · rw [g1]; omega
theorem deadAt_free {l : List SMatch} {k : Nat} (hk : k < l.length) (h : deadAt l k = false) (j : Nat) (hj : j < k) : coversM (l.getD j eMatch.zero) (l.getD k eMatch.zero) = false := by
  cases hc : coversM (l.getD j eMatch.zero) (l.getD k eMatch.zero) with
  | false => rfl
  | true => rw [deadAt_yes l k j hk hj hc] at h; cases h
theorem alive_free (l : List SMatch) : deadB (alT l l.length) = [] := by
  unfold deadB deadT
  rw [List.map_eq_nil_iff, List.filter_eq_nil_iff]
  intro p hp
  have hp : p < (alT l l.length).length := by simpa using hp
  have hpi : p < (idxs l l.length).length := by rwa [alT_len] at hp
  have hd := idxs_mem.1 (List.getElem_mem hpi)
  have := deadAt_no (alT l l.length) p (by omega) (fun q hq => by
    have hqi : q < (idxs l l.length).length := by omega
    rw [alT_get l _ q hqi, alT_get l _ p hpi]
    exact deadAt_free hd.1 hd.2 _ (List.pairwise_iff_getElem.1 (idxs_sorted l l.length) q p hqi hpi (by omega)))
  rw [this]
  simp
theorem alive_comp {l : List SMatch} (h : compE l = 0) : compE (alT l l.length) = 0 := by
  obtain ⟨h1, h2⟩ := compE_all h
  have h3 := idxs_len l l.length
  have h4 := alT_len l l.length
  have h5 : (alT l l.length).all okM = true := by
    rw [List.all_eq_true]
    intro m hm
    unfold alT at hm
    obtain ⟨k, hk, rfl⟩ := List.mem_map.1 hm
    exact List.all_eq_true.1 h1 _ (getD_mem _ _ _ (idxs_mem.1 hk).1)
  unfold compE
  rw [decide_eq_false (by omega), h5]
  rfl
def usualB (x : SLaw19Came) : Bool := decide (0 ≤ x.in_) && decide (x.in_ ≤ 255) && decide (x.h.src.v6 = x.h.dst.v6) && hasP (zP x.h.src.v6) x.h.src && hasP (zP x.h.dst.v6) x.h.dst && ((decide (x.h.proto = 6) || decide (x.h.proto = 17)) || (decide (x.h.srcPort = 0) && decide (x.h.dstPort = 0)))
theorem span_sound (p q : Bool) (a b : SSpan) (t : UInt16) (n : Int) (h0 : 0 ≤ n) (ht : n ≤ t.toNat) (h : spansR p a q b t = true) (hq : (!q || withinB b n) = true) : (!p || withinB a n) = true := by
  unfold spansR withinB at *
  cases p <;> cases q <;> simp [u16le] at * <;> omega
theorem sub_sound {p q : Bool} {a b : SPrefix} {x : SAddr} (hz : hasP (zP x.v6) x = true) (h : p = true → Sub a (eP q b x.v6)) (hq : (!q || hasP b x) = true) : (!p || hasP a x) = true := by
  cases p with
  | false => rfl
  | true =>
    have s := h rfl
    have hx := ((hasP_iff _ _).1 hz).2.1
    have s2 : Sub (eP q b x.v6) ⟨x, (eP q b x.v6).bits⟩ := by
      refine ⟨Int.le_refl _, ?_⟩
      cases q with
      | false => exact hz
      | true =>
        have hb : hasP b x = true := by simpa using hq
        exact hb
    simpa using (s.trans (c := ⟨x, (eP q b x.v6).bits⟩) hx s2).has
/-- What m covers, m is met by, of usual packets. -/
theorem covers_sound {m n : SMatch} {x : SLaw19Came} (hm : okM m = true) (hn : okM n = true) (hc : coversM m n = true) (hu : usualB x = true) (h : metB n x.in_ x.h = true) : metB m x.in_ x.h = true := by
  obtain ⟨a1, a2, a3, a4, a5⟩ := (covers_parts hm hn).1 hc
  unfold usualB at hu
  simp only [Bool.and_eq_true, decide_eq_true_eq, and_assoc] at hu
  obtain ⟨u1, u2, u3, u4, u5, _⟩ := hu
  rw [metB_eq] at h ⊢
  simp only [Bool.and_eq_true, and_assoc] at h ⊢
  obtain ⟨b1, b2, b3, b4, b5, b6⟩ := h
  have on := Ok.of hn
  have hv : kv x.h.src.v6 n = true := (kv_iff on _).2 ⟨fun e => by
      rw [e] at b3
      exact (((hasP_iff _ _).1 (by simpa using b3)).2.2.1).symm, fun e => by
      rw [e] at b4
      exact ((((hasP_iff _ _).1 (by simpa using b4)).2.2.1).symm).trans u3.symm⟩
  have g := (ac_iff m n).1 a2 _ hv
  have g2 := g.2
  rw [u3] at g2
  refine ⟨span_sound _ _ _ _ 255 _ u1 (by show x.in_ ≤ ((255 : Nat) : Int); omega) a1 b1, ?_, sub_sound u4 g.1 b3, sub_sound u5 g2 b4, span_sound _ _ _ _ _ _ (by omega) (by have := x.h.srcPort.toNat_lt; show ((x.h.srcPort.toNat : Nat) : Int) ≤ ((65535 : Nat) : Int); omega) a4 b5, span_sound _ _ _ _ _ _ (by omega) (by have := x.h.dstPort.toNat_lt; show ((x.h.dstPort.toNat : Nat) : Int) ≤ ((65535 : Nat) : Int); omega) a5 b6⟩
  unfold cpB at a3
  cases h5 : asksB m 8 <;> cases h6 : asksB n 8 <;> simp_all
theorem first_alive {l : List SMatch} (hc : compE l = 0) (x : SLaw19Came) (hu : usualB x = true) (p : Nat) (hp : p < l.length) (hq : metB (l.getD p eMatch.zero) x.in_ x.h = true) (hb : ∀ j : Nat, j < p → metB (l.getD j eMatch.zero) x.in_ x.h = false) : deadAt l p = false := by
  obtain ⟨ha, _⟩ := compE_all hc
  have ok : ∀ k, k < l.length → okM (l.getD k eMatch.zero) = true := fun k hk => List.all_eq_true.1 ha _ (getD_mem _ _ _ hk)
  refine deadAt_no l p (by omega) (fun q hq2 => ?_)
  cases hcv : coversM (l.getD q eMatch.zero) (l.getD p eMatch.zero) with
  | false => rfl
  | true =>
    have := covers_sound (ok q (by omega)) (ok p hp) hcv hu hq
    rw [hb q (by omega)] at this
    cases this

theorem usual_ok (x : SLaw19Came) (w : World) : Calls Try.prog 19 #[eLaw19Came.val x] w (RetV w (.bool (usualB x))) := by
  refine enter0 70 Try.func19 rfl rfl (Nat.le_of_ble_eq_true rfl) ?_
  refine seq ?_
  refine region ?_
  refine cons (box (E := eLaw19Came) (.t rfl) (fun b1 => ?_))
  refine cons (opv (Ev.assign (.c (v := .bool false) rfl)) ?_)
  refine nil ?_
  refine pN ?_
  refine seq ?_
  refine region ?_
  refine cons (opv (Ev.fieldAddr (o := 0) (.t rfl) (by kernel_rfl)) ?_)
  refine cons (opv (Ev.load (xv := x.in_) ty3 (.t rfl) (ptsVar (by repeat first | exact mH | apply mT | apply mA) SLaw19Came.l_in_)) ?_)
  refine cons (opv (Ev.geq_i (.t rfl) (.c (v := I 0) rfl)) ?_)
  refine cons (opv (Ev.move (.t rfl)) ?_)
  refine cons (opg rfl rfl (Ev.fieldAddr (o := 0) (.t rfl) (by kernel_rfl)) ?_)
  refine cons (opg rfl rfl (Ev.load (xv := x.in_) ty3 (.g rfl id) (ptsVar (by repeat first | exact mH | apply mT | apply mA) SLaw19Came.l_in_)) ?_)
  refine cons (opg rfl rfl (Ev.leq_i (.g rfl id) (.c (v := I 255) rfl)) ?_)
  refine cons (opv (Ev.pickA (.t rfl) (fun {_} h => by cases h; rfl) ⟨_, rfl⟩ (by intro h1 h; first | (rw [h] <;> rfl) | (rw [h1, h] <;> rfl) | (rw [h, h1] <;> rfl) | simp_all) (.c (v := .bool false) rfl)) ?_)
  refine cons (opv (Ev.move (.t rfl)) ?_)
  refine cons (opg rfl rfl (Ev.fieldAddr (o := 1) (.t rfl) (by kernel_rfl)) ?_)
  refine cons (opg rfl rfl (Ev.fieldAddr (o := 0) (.g rfl id) (by kernel_rfl)) ?_)
  refine cons (opg rfl rfl (Ev.fieldAddr (o := 0) (.g rfl id) (by kernel_rfl)) ?_)
  refine cons (opg rfl rfl (Ev.load (xv := x.h.src.v6) ty4 (.g rfl id) (ptsVar (by repeat first | exact mH | apply mT | apply mA) (Lens.comp (Lens.comp SLaw19Came.l_h SHeader.l_src) SAddr.l_v6))) ?_)
  refine cons (opg rfl rfl (Ev.fieldAddr (o := 1) (.t rfl) (by kernel_rfl)) ?_)
  refine cons (opg rfl rfl (Ev.fieldAddr (o := 17) (.g rfl id) (by kernel_rfl)) ?_)
  refine cons (opg rfl rfl (Ev.fieldAddr (o := 0) (.g rfl id) (by kernel_rfl)) ?_)
  refine cons (opg rfl rfl (Ev.load (xv := x.h.dst.v6) ty4 (.g rfl id) (ptsVar (by repeat first | exact mH | apply mT | apply mA) (Lens.comp (Lens.comp SLaw19Came.l_h SHeader.l_dst) SAddr.l_v6))) ?_)
  refine cons (opg rfl rfl (Ev.eql_b Try.underlying4 (.g rfl id) (.g rfl id)) ?_)
  refine cons (opv (Ev.pickA (.t rfl) (fun {_} h => by cases h; rfl) ⟨_, rfl⟩ (by intro h1 h; first | (rw [h] <;> rfl) | (rw [h1, h] <;> rfl) | (rw [h, h1] <;> rfl) | simp_all) (.c (v := .bool false) rfl)) ?_)
  refine cons (opv (Ev.move (.t rfl)) ?_)
  refine cons (opg rfl rfl (Ev.fieldAddr (o := 1) (.t rfl) (by kernel_rfl)) ?_)
  refine cons (opg rfl rfl (Ev.fieldAddr (o := 0) (.g rfl id) (by kernel_rfl)) ?_)
  refine cons (opg rfl rfl (Ev.fieldAddr (o := 0) (.g rfl id) (by kernel_rfl)) ?_)
  refine cons (opg rfl rfl (Ev.load (xv := x.h.src.v6) ty4 (.g rfl id) (ptsVar (by repeat first | exact mH | apply mT | apply mA) (Lens.comp (Lens.comp SLaw19Came.l_h SHeader.l_src) SAddr.l_v6))) ?_)
  refine cons (opg rfl rfl (Ev.buildS (fs := _) (places := [(0, 1), (1, 16)]) z27 rfl Try.underlying27 (by kernel_rfl) (.cons (.g rfl id) .nil) (Fills.cons SAddr.l_v6 rfl Fills.nil)) ?_)
  refine cons (opg rfl rfl (Ev.buildS (fs := _) (places := [(0, 17), (17, 1)]) z29 rfl Try.underlying29 (by kernel_rfl) (.cons (.g rfl id) .nil) (Fills.cons SPrefix.l_addr rfl Fills.nil)) ?_)
  refine cons (opg rfl rfl (Ev.fieldAddr (o := 1) (.t rfl) (by kernel_rfl)) ?_)
  refine cons (opg rfl rfl (Ev.fieldAddr (o := 0) (.g rfl id) (by kernel_rfl)) ?_)
  refine cons (opg rfl rfl (Ev.load (xv := x.h.src) ty27 (.g rfl id) (ptsVar (by repeat first | exact mH | apply mT | apply mA) (Lens.comp SLaw19Came.l_h SHeader.l_src))) ?_)
  refine cons (callg rfl rfl en39 (.cons (.g rfl id) (.cons (.g rfl id) .nil)) (fun hg w I => rhas_ok _ _ w) ?_)
  refine cons (opv (Ev.pickA (.t rfl) (fun {_} h => by cases h; rfl) ⟨_, rfl⟩ (by intro h1 h; first | (rw [h] <;> rfl) | (rw [h1, h] <;> rfl) | (rw [h, h1] <;> rfl) | simp_all) (.c (v := .bool false) rfl)) ?_)
  refine cons (opv (Ev.move (.t rfl)) ?_)
  refine cons (opg rfl rfl (Ev.fieldAddr (o := 1) (.t rfl) (by kernel_rfl)) ?_)
  refine cons (opg rfl rfl (Ev.fieldAddr (o := 17) (.g rfl id) (by kernel_rfl)) ?_)
  refine cons (opg rfl rfl (Ev.fieldAddr (o := 0) (.g rfl id) (by kernel_rfl)) ?_)
  refine cons (opg rfl rfl (Ev.load (xv := x.h.dst.v6) ty4 (.g rfl id) (ptsVar (by repeat first | exact mH | apply mT | apply mA) (Lens.comp (Lens.comp SLaw19Came.l_h SHeader.l_dst) SAddr.l_v6))) ?_)
  refine cons (opg rfl rfl (Ev.buildS (fs := _) (places := [(0, 1), (1, 16)]) z27 rfl Try.underlying27 (by kernel_rfl) (.cons (.g rfl id) .nil) (Fills.cons SAddr.l_v6 rfl Fills.nil)) ?_)
  refine cons (opg rfl rfl (Ev.buildS (fs := _) (places := [(0, 17), (17, 1)]) z29 rfl Try.underlying29 (by kernel_rfl) (.cons (.g rfl id) .nil) (Fills.cons SPrefix.l_addr rfl Fills.nil)) ?_)
  refine cons (opg rfl rfl (Ev.fieldAddr (o := 1) (.t rfl) (by kernel_rfl)) ?_)
  refine cons (opg rfl rfl (Ev.fieldAddr (o := 17) (.g rfl id) (by kernel_rfl)) ?_)
  refine cons (opg rfl rfl (Ev.load (xv := x.h.dst) ty27 (.g rfl id) (ptsVar (by repeat first | exact mH | apply mT | apply mA) (Lens.comp SLaw19Came.l_h SHeader.l_dst))) ?_)
  refine cons (callg rfl rfl en39 (.cons (.g rfl id) (.cons (.g rfl id) .nil)) (fun hg w I => rhas_ok _ _ w) ?_)
  refine cons (opv (Ev.pickA (.t rfl) (fun {_} h => by cases h; rfl) ⟨_, rfl⟩ (by intro h1 h; first | (rw [h] <;> rfl) | (rw [h1, h] <;> rfl) | (rw [h, h1] <;> rfl) | simp_all) (.c (v := .bool false) rfl)) ?_)
  refine cons (opv (Ev.move (.t rfl)) ?_)
  refine cons (opg rfl rfl (Ev.fieldAddr (o := 1) (.t rfl) (by kernel_rfl)) ?_)
  refine cons (opg rfl rfl (Ev.fieldAddr (o := 34) (.g rfl id) (by kernel_rfl)) ?_)
  refine cons (opg rfl rfl (Ev.load (xv := x.h.proto) ty5 (.g rfl id) (ptsVar (by repeat first | exact mH | apply mT | apply mA) (Lens.comp SLaw19Came.l_h SHeader.l_proto))) ?_)
  refine cons (opg rfl rfl (Ev.eql_u8 (.g rfl id) (.c (v := U8 6) rfl)) ?_)
  refine cons (opg rfl rfl (Ev.move (.g rfl id)) ?_)
  refine cons (opg rfl rfl (Ev.fieldAddr (o := 1) (.t rfl) (by kernel_rfl)) ?_)
  refine cons (opg rfl rfl (Ev.fieldAddr (o := 34) (.g rfl id) (by kernel_rfl)) ?_)
  refine cons (opg rfl rfl (Ev.load (xv := x.h.proto) ty5 (.g rfl id) (ptsVar (by repeat first | exact mH | apply mT | apply mA) (Lens.comp SLaw19Came.l_h SHeader.l_proto))) ?_)
  refine cons (opg rfl rfl (Ev.eql_u8 (.g rfl id) (.c (v := U8 17) rfl)) ?_)
  refine cons (opg rfl rfl (Ev.pickO (.g rfl id) (.c (v := .bool true) rfl) (fun {_} h => by cases h; rfl) ⟨_, rfl⟩ (by intro h1 h; first | (rw [h] <;> rfl) | (rw [h1, h] <;> rfl) | (rw [h, h1] <;> rfl) | simp_all)) ?_)
  refine cons (opg rfl rfl (Ev.move (.g rfl id)) ?_)
  refine cons (opg rfl rfl (Ev.fieldAddr (o := 1) (.t rfl) (by kernel_rfl)) ?_)
  refine cons (opg rfl rfl (Ev.fieldAddr (o := 35) (.g rfl id) (by kernel_rfl)) ?_)
  refine cons (opg rfl rfl (Ev.load (xv := x.h.srcPort) ty22 (.g rfl id) (ptsVar (by repeat first | exact mH | apply mT | apply mA) (Lens.comp SLaw19Came.l_h SHeader.l_srcPort))) ?_)
  refine cons (opg rfl rfl (Ev.eql_u16 (.g rfl id) (.c (v := U16 0) rfl)) ?_)
  refine cons (opg rfl rfl (Ev.move (.g rfl id)) ?_)
  refine cons (opg rfl rfl (Ev.fieldAddr (o := 1) (.t rfl) (by kernel_rfl)) ?_)
  refine cons (opg rfl rfl (Ev.fieldAddr (o := 36) (.g rfl id) (by kernel_rfl)) ?_)
  refine cons (opg rfl rfl (Ev.load (xv := x.h.dstPort) ty22 (.g rfl id) (ptsVar (by repeat first | exact mH | apply mT | apply mA) (Lens.comp SLaw19Came.l_h SHeader.l_dstPort))) ?_)
  refine cons (opg rfl rfl (Ev.eql_u16 (.g rfl id) (.c (v := U16 0) rfl)) ?_)
  refine cons (opg rfl rfl (Ev.pickA (.g rfl id) (fun {_} h => by cases h; rfl) ⟨_, rfl⟩ (by intro h1 h; first | (rw [h] <;> rfl) | (rw [h1, h] <;> rfl) | (rw [h, h1] <;> rfl) | simp_all) (.c (v := .bool false) rfl)) ?_)
  refine cons (opg rfl rfl (Ev.pickO (.g rfl id) (.c (v := .bool true) rfl) (fun {_} h => by cases h; rfl) ⟨_, rfl⟩ (by intro h1 h; first | (rw [h] <;> rfl) | (rw [h1, h] <;> rfl) | (rw [h, h1] <;> rfl) | simp_all)) ?_)
  refine cons (opv (Ev.pickA (.t rfl) (fun {_} h => by cases h; rfl) ⟨_, rfl⟩ (by intro h1 h; first | (rw [h] <;> rfl) | (rw [h1, h] <;> rfl) | (rw [h, h1] <;> rfl) | simp_all) (.c (v := .bool false) rfl)) ?_)
  refine cons (opv (Ev.assign (.t rfl)) ?_)
  refine nil ?_
  refine pN ?_
  refine ret ?_
  refine done rfl (.tmp rfl .nil) (retE ?_)
  rfl
end Go.Proofs.Ytkmdhmfgbgngeaa
