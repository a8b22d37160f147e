/- conf -/
import Derived.Test.YtnoobdijbpmjkaaGreatC15
set_option linter.unusedVariables false
set_option linter.unusedSimpArgs false
namespace Go.Proofs.YtnoobdijbpmjkaaGreat
open Go Go.Gx

theorem take_snoc {α : Type} (l : List α) (i : Int) (h0 : 0 ≤ i) (h1 : i < l.length) (z : α) : l.take (i + 1).toNat = l.take i.toNat ++ [l.getD i.toNat z] := by
  have e : (i + 1).toNat = i.toNat + 1 := by omega
  have h2 : i.toNat < l.length := by omega
  rw [e, List.take_succ_eq_append_getElem h2]
  simp [List.getD, h2]
/-- What has a value though it is not asked, or is asked though nobody knows it. -/
def bad0 (m : SMatch) : Bool := decide (63 < m.asks) || (!asksB m 1 && !decide (m.in_ = eSpan.zero)) || (!asksB m 2 && !decide (m.src = ePrefix.zero)) || (!asksB m 4 && !decide (m.dst = ePrefix.zero)) || (!asksB m 8 && decide (¬ m.proto = 0)) || (!asksB m 16 && !decide (m.srcPort = eSpan.zero)) || (!asksB m 32 && !decide (m.dstPort = eSpan.zero))
def bad1 (m : SMatch) : Bool := decide (m.in_.to_ < m.in_.from_) || decide (255 < m.in_.to_) || decide (m.srcPort.to_ < m.srcPort.from_) || decide (m.dstPort.to_ < m.dstPort.from_)
def bad2 (m : SMatch) : Bool := (asksB m 2 && !decide (checkP m.src = 0)) || (asksB m 4 && !decide (checkP m.dst = 0)) || (asksB m 2 && asksB m 4 && decide (¬ m.src.addr.v6 = m.dst.addr.v6))
def good3 (m : SMatch) : Bool := (!asksB m 16 && !asksB m 32) || (asksB m 8 && portsB m.proto)
/-- May the match be? -/
def okM (m : SMatch) : Bool := !bad0 m && !bad1 m && !bad2 m && good3 m
def ckM (m : SMatch) : Int := bif okM m then 0 else 190
theorem ckM_zero (m : SMatch) : decide (ckM m = 0) = okM m := by unfold ckM; cases okM m <;> rfl
def addF (c : Bool) (f h : UInt8) : UInt8 := bif c then h ||| f else h
theorem u8_or_zero (x y : UInt8) : x ||| y = 0 ↔ x = 0 ∧ y = 0 := by
  constructor
  · intro h
    have h1 := congrArg UInt8.toNat h
    rw [UInt8.toNat_or] at h1
    have h2 : UInt8.toNat 0 = 0 := rfl
    rw [h2] at h1
    have h3 : x.toNat ≤ x.toNat ||| y.toNat := Nat.left_le_or
    have h4 : y.toNat ≤ x.toNat ||| y.toNat := Nat.right_le_or
    exact ⟨UInt8.toNat_inj.1 (by rw [h2]; omega), UInt8.toNat_inj.1 (by rw [h2]; omega)⟩
  · rintro ⟨rfl, rfl⟩
    rfl
theorem addF_and (c : Bool) (f h a : UInt8) : addF c f h &&& a = 0 ↔ (c = true → f &&& a = 0) ∧ h &&& a = 0 := by
  unfold addF
  cases c
  · simp
  · simp only [cond_true, forall_const]
    have e : (h ||| f) &&& a = h &&& a ||| f &&& a := by
      apply UInt8.toNat_inj.1
      simp only [UInt8.toNat_and, UInt8.toNat_or, Nat.and_or_distrib_right]
    rw [e, u8_or_zero]
    exact and_comm
set_option maxRecDepth 100000 in
theorem not_dec : ∀ w ∈ ([1, 2, 4, 8, 16, 32] : List UInt8), ∀ n : Fin 256, (w &&& ~~~ (UInt8.ofNat n.val) = 0) = (¬ UInt8.ofNat n.val &&& w = 0) := by
  intro w hw n
  have h : ∀ w ∈ ([1, 2, 4, 8, 16, 32] : List UInt8), ∀ n : Fin 256, decide (w &&& ~~~ (UInt8.ofNat n.val) = 0) = decide (¬ UInt8.ofNat n.val &&& w = 0) := by decide +kernel
  have := h w hw n
  rw [Bool.eq_iff_iff, decide_eq_true_iff, decide_eq_true_iff] at this
  exact propext this
theorem not_asks (m : SMatch) (w : UInt8) (h : w ∈ ([1, 2, 4, 8, 16, 32] : List UInt8)) : (w &&& ~~~ m.asks = 0) ↔ asksB m w = true := by
  have := not_dec w h ⟨m.asks.toNat, m.asks.toNat_lt⟩
  simp only [UInt8.ofNat_toNat] at this
  unfold asksB
  rw [this, decide_eq_true_iff]
set_option maxRecDepth 100000 in
theorem big_dec : ∀ n : Fin 256, decide (¬ UInt8.ofNat n.val &&& ~~~ 63 = 0) = decide (63 < UInt8.ofNat n.val) := by decide +kernel
theorem big_asks (x : UInt8) : decide (¬ x &&& ~~~ 63 = 0) = decide (63 < x) := by
  have := big_dec ⟨x.toNat, x.toNat_lt⟩
  simpa only [UInt8.ofNat_toNat] using this
set_option maxRecDepth 100000 in
theorem p48_dec : ∀ n : Fin 256, decide (¬ UInt8.ofNat n.val &&& 48 = 0) = (decide (¬ UInt8.ofNat n.val &&& 16 = 0) || decide (¬ UInt8.ofNat n.val &&& 32 = 0)) := by decide +kernel
theorem asks48 (m : SMatch) : asksB m 48 = (asksB m 16 || asksB m 32) := by
  have := p48_dec ⟨m.asks.toNat, m.asks.toNat_lt⟩
  unfold asksB
  simpa only [UInt8.ofNat_toNat] using this
theorem addF_dec (c : Bool) (f h : UInt8) (m : SMatch) (hf : f ∈ ([1, 2, 4, 8, 16, 32] : List UInt8)) : decide (¬ addF c f h &&& ~~~ m.asks = 0) = ((!asksB m f && c) || decide (¬ h &&& ~~~ m.asks = 0)) := by
  have h1 := addF_and c f h (~~~ m.asks)
  have h2 := not_asks m f hf
  rw [Bool.eq_iff_iff]
  rw [h2] at h1
  cases c <;> cases hq : asksB m f <;> rw [hq] at h1 <;> simp [h1]
theorem good3_of (m : SMatch) (h : asksB m 16 = true ∨ asksB m 32 = true → ¬m.proto = 6 → m.proto = 17) (hp : asksB m 8 = false → m.proto = 0) : good3 m = true := by
  unfold good3 portsB
  by_cases p6 : m.proto = 6 <;> by_cases p17 : m.proto = 17 <;> cases h16 : asksB m 16 <;> cases h32 : asksB m 32 <;> cases h8 : asksB m 8 <;> simp_all
theorem has_bad (m : SMatch) (c1 c2 c3 c4 c5 c6 : Bool) : (decide (¬ m.asks &&& ~~~ 63 = 0) || decide (¬ addF c6 32 (addF c5 16 (addF c4 8 (addF c3 4 (addF c2 2 (addF c1 1 0))))) &&& ~~~ m.asks = 0)) =
    (decide (63 < m.asks) || (!asksB m 1 && c1) || (!asksB m 2 && c2) || (!asksB m 4 && c3) || (!asksB m 8 && c4) || (!asksB m 16 && c5) || (!asksB m 32 && c6)) := by
  rw [big_asks, addF_dec _ _ _ _ (by decide), addF_dec _ _ _ _ (by decide), addF_dec _ _ _ _ (by decide), addF_dec _ _ _ _ (by decide), addF_dec _ _ _ _ (by decide), addF_dec _ _ _ _ (by decide)]
  have e : decide (¬ (0 : UInt8) &&& ~~~ m.asks = 0) = false := by simp
  rw [e]
  ac_rfl

theorem z72 : (Tryz.prog.info? 72).bind (·.zero) = some (eSpan.val eSpan.zero) := by kernel_rfl

theorem en179 : Gx.Enters Tryz.prog 179 := Gx.Enters.mk' (by kernel_rfl)

theorem en186 : Gx.Enters Tryz.prog 186 := Gx.Enters.mk' (by kernel_rfl)

theorem rcheck_ok (m : SMatch) (w : World) : Calls Tryz.prog 157 #[eMatch.val m] w (RetV w (.bool (okM m))) := by
  refine enter0 163 Tryz.func157 rfl rfl (Nat.le_of_ble_eq_true rfl) ?_
  refine seq (region (cons (box (E := eMatch) (.t rfl) (fun b1 => ?_))))
  refine cons (opv (Ev.assign (.c (v := .bool false) rfl)) ?_)
  refine nil (pN (seq (region (cons (opv (Ev.buildS (fs := _) (places := [(0, 1), (1, 1)]) z72 rfl Tryz.underlying72 (by kernel_rfl) .nil Fills.nil) ?_)))))
  refine cons (alloc z72 (fun b2 => ?_))
  refine cons (stv ty72 (Lens.id _) (.t rfl) (.t rfl) ?_)
  refine nil (pN (seq (draw' (by kernel_rfl) ?_)))
  refine tk 0 rfl (Ev.load (xv := m) ty74 (.t rfl) (ptsVar (by repeat first | exact mH | apply mT | apply mA) (Lens.id _))) ?_
  refine tk 2 rfl (Ev.load (xv := m) ty74 (.t rfl) (ptsVar (by repeat first | exact mH | apply mT | apply mA) (Lens.id _))) ?_
  refine tk 4 rfl (Ev.load (xv := m) ty74 (.t rfl) (ptsVar (by repeat first | exact mH | apply mT | apply mA) (Lens.id _))) ?_
  refine tk 6 rfl (Ev.load (xv := m) ty74 (.t rfl) (ptsVar (by repeat first | exact mH | apply mT | apply mA) (Lens.id _))) ?_
  refine tk 8 rfl (Ev.load (xv := m) ty74 (.t rfl) (ptsVar (by repeat first | exact mH | apply mT | apply mA) (Lens.id _))) ?_
  refine tk 10 rfl (Ev.load (xv := m) ty74 (.t rfl) (ptsVar (by repeat first | exact mH | apply mT | apply mA) (Lens.id _))) ?_
  refine al1 1 rfl ((callv en179 (.cons (.t rfl) (.cons (.c (v := U8 1) rfl) .nil)) (fun w I => rasks_ok _ _ w (by decide)) ?_))
  refine hdn (al1 3 rfl ((callv en179 (.cons (.t rfl) (.cons (.c (v := U8 2) rfl) .nil)) (fun w I => rasks_ok _ _ w (by decide)) ?_)))
  refine hdn (al1 5 rfl ((callv en179 (.cons (.t rfl) (.cons (.c (v := U8 4) rfl) .nil)) (fun w I => rasks_ok _ _ w (by decide)) ?_)))
  refine hdn (al1 7 rfl ((callv en179 (.cons (.t rfl) (.cons (.c (v := U8 8) rfl) .nil)) (fun w I => rasks_ok _ _ w (by decide)) ?_)))
  refine hdn (al1 9 rfl ((callv en179 (.cons (.t rfl) (.cons (.c (v := U8 16) rfl) .nil)) (fun w I => rasks_ok _ _ w (by decide)) ?_)))
  refine hdn (al1 11 rfl ((callv en179 (.cons (.t rfl) (.cons (.c (v := U8 32) rfl) .nil)) (fun w I => rasks_ok _ _ w (by decide)) ?_)))
  refine hdn (tk 12 rfl (Ev.assign (.t rfl)) ?_)
  refine tk 13 rfl (Ev.assign (.t rfl)) ?_
  refine tk 14 rfl (Ev.assign (.t rfl)) ?_
  refine tk 15 rfl (Ev.assign (.t rfl)) ?_
  refine tk 16 rfl (Ev.assign (.t rfl)) ?_
  refine tk 17 rfl (Ev.assign (.t rfl)) ?_
  refine ovr (pN (seq (seq (region (cons (opv (Ev.fieldAddr (o := 0) (.t rfl) (by kernel_rfl)) ?_))))))
  refine cons (opv (Ev.load (xv := m.asks) ty5 (.t rfl) (ptsVar (by repeat first | exact mH | apply mT | apply mA) SMatch.l_asks)) ?_)
  refine cons (opv (Ev.gtr_u8 (.t rfl) (.c (v := U8 63) rfl)) ?_)
  refine cons (opv (Ev.move (.t rfl)) (cons (opg rfl rfl (Ev.move (.t rfl)) ?_)))
  refine cons (opg rfl rfl (Ev.not (.g rfl id)) ?_)
  refine cons (opg rfl rfl (Ev.move (.g rfl id)) ?_)
  refine cons (opg rfl rfl (Ev.fieldAddr (o := 1) (.t rfl) (by kernel_rfl)) ?_)
  refine cons (opg rfl rfl (Ev.load (xv := m.in_) ty72 (.g rfl id) (ptsVar (by repeat first | exact mH | apply mT | apply mA) SMatch.l_in_)) ?_)
  refine cons (opg rfl rfl (Ev.ldv ty72 (.t rfl) (Lens.id _)) ?_)
  refine cons (opg rfl rfl (Ev.neqS rfl eqok72 rfl (by kernel_rfl) (.g rfl id) (.g rfl id)) ?_)
  refine cons (opg rfl rfl (Ev.pickA (.g rfl id) (fun {_} h => by cases h; rfl) ⟨_, rfl⟩ (by intro h1 h; first | (rw [h] <;> rfl) | (rw [h1, h] <;> rfl) | (rw [h, h1] <;> rfl) | simp_all) (.c (v := .bool false) rfl)) ?_)
  refine cons (opv (Ev.pickO (.t rfl) (.c (v := .bool true) rfl) (fun {_} h => by cases h; rfl) ⟨_, rfl⟩ (by intro h1 h; first | (rw [h] <;> rfl) | (rw [h1, h] <;> rfl) | (rw [h, h1] <;> rfl) | simp_all)) ?_)
  refine cons (opv (Ev.move (.t rfl)) (cons (opg rfl rfl (Ev.move (.t rfl)) ?_)))
  refine cons (opg rfl rfl (Ev.not (.g rfl id)) ?_)
  refine cons (opg rfl rfl (Ev.move (.g rfl id)) ?_)
  refine cons (opg rfl rfl (Ev.fieldAddr (o := 3) (.t rfl) (by kernel_rfl)) ?_)
  refine cons (opg rfl rfl (Ev.load (xv := m.src) ty50 (.g rfl id) (ptsVar (by repeat first | exact mH | apply mT | apply mA) SMatch.l_src)) ?_)
  refine cons (opg rfl rfl (Ev.buildS (fs := _) (places := [(0, 17), (17, 1)]) z50 rfl Tryz.underlying50 (by kernel_rfl) .nil Fills.nil) ?_)
  refine cons (opg rfl rfl (Ev.neqS rfl eqok50 rfl (by kernel_rfl) (.g rfl id) (.g rfl id)) ?_)
  refine cons (opg rfl rfl (Ev.pickA (.g rfl id) (fun {_} h => by cases h; rfl) ⟨_, rfl⟩ (by intro h1 h; first | (rw [h] <;> rfl) | (rw [h1, h] <;> rfl) | (rw [h, h1] <;> rfl) | simp_all) (.c (v := .bool false) rfl)) ?_)
  refine cons (opv (Ev.pickO (.t rfl) (.c (v := .bool true) rfl) (fun {_} h => by cases h; rfl) ⟨_, rfl⟩ (by intro h1 h; first | (rw [h] <;> rfl) | (rw [h1, h] <;> rfl) | (rw [h, h1] <;> rfl) | simp_all)) ?_)
  refine cons (opv (Ev.move (.t rfl)) (cons (opg rfl rfl (Ev.move (.t rfl)) ?_)))
  refine cons (opg rfl rfl (Ev.not (.g rfl id)) ?_)
  refine cons (opg rfl rfl (Ev.move (.g rfl id)) ?_)
  refine cons (opg rfl rfl (Ev.fieldAddr (o := 21) (.t rfl) (by kernel_rfl)) ?_)
  refine cons (opg rfl rfl (Ev.load (xv := m.dst) ty50 (.g rfl id) (ptsVar (by repeat first | exact mH | apply mT | apply mA) SMatch.l_dst)) ?_)
  refine cons (opg rfl rfl (Ev.buildS (fs := _) (places := [(0, 17), (17, 1)]) z50 rfl Tryz.underlying50 (by kernel_rfl) .nil Fills.nil) ?_)
  refine cons (opg rfl rfl (Ev.neqS rfl eqok50 rfl (by kernel_rfl) (.g rfl id) (.g rfl id)) ?_)
  refine cons (opg rfl rfl (Ev.pickA (.g rfl id) (fun {_} h => by cases h; rfl) ⟨_, rfl⟩ (by intro h1 h; first | (rw [h] <;> rfl) | (rw [h1, h] <;> rfl) | (rw [h, h1] <;> rfl) | simp_all) (.c (v := .bool false) rfl)) ?_)
  refine cons (opv (Ev.pickO (.t rfl) (.c (v := .bool true) rfl) (fun {_} h => by cases h; rfl) ⟨_, rfl⟩ (by intro h1 h; first | (rw [h] <;> rfl) | (rw [h1, h] <;> rfl) | (rw [h, h1] <;> rfl) | simp_all)) ?_)
  refine cons (opv (Ev.move (.t rfl)) (cons (opg rfl rfl (Ev.move (.t rfl)) ?_)))
  refine cons (opg rfl rfl (Ev.not (.g rfl id)) ?_)
  refine cons (opg rfl rfl (Ev.move (.g rfl id)) ?_)
  refine cons (opg rfl rfl (Ev.fieldAddr (o := 39) (.t rfl) (by kernel_rfl)) ?_)
  refine cons (opg rfl rfl (Ev.load (xv := m.proto) ty5 (.g rfl id) (ptsVar (by repeat first | exact mH | apply mT | apply mA) SMatch.l_proto)) ?_)
  refine cons (opg rfl rfl (Ev.neq_u8 (.g rfl id) (.c (v := U8 0) rfl)) ?_)
  refine cons (opg rfl rfl (Ev.pickA (.g rfl id) (fun {_} h => by cases h; rfl) ⟨_, rfl⟩ (by intro h1 h; first | (rw [h] <;> rfl) | (rw [h1, h] <;> rfl) | (rw [h, h1] <;> rfl) | simp_all) (.c (v := .bool false) rfl)) ?_)
  refine cons (opv (Ev.pickO (.t rfl) (.c (v := .bool true) rfl) (fun {_} h => by cases h; rfl) ⟨_, rfl⟩ (by intro h1 h; first | (rw [h] <;> rfl) | (rw [h1, h] <;> rfl) | (rw [h, h1] <;> rfl) | simp_all)) ?_)
  refine cons (opv (Ev.move (.t rfl)) (cons (opg rfl rfl (Ev.move (.t rfl)) ?_)))
  refine cons (opg rfl rfl (Ev.not (.g rfl id)) ?_)
  refine cons (opg rfl rfl (Ev.move (.g rfl id)) ?_)
  refine cons (opg rfl rfl (Ev.fieldAddr (o := 40) (.t rfl) (by kernel_rfl)) ?_)
  refine cons (opg rfl rfl (Ev.load (xv := m.srcPort) ty72 (.g rfl id) (ptsVar (by repeat first | exact mH | apply mT | apply mA) SMatch.l_srcPort)) ?_)
  refine cons (opg rfl rfl (Ev.ldv ty72 (.t rfl) (Lens.id _)) ?_)
  refine cons (opg rfl rfl (Ev.neqS rfl eqok72 rfl (by kernel_rfl) (.g rfl id) (.g rfl id)) ?_)
  refine cons (opg rfl rfl (Ev.pickA (.g rfl id) (fun {_} h => by cases h; rfl) ⟨_, rfl⟩ (by intro h1 h; first | (rw [h] <;> rfl) | (rw [h1, h] <;> rfl) | (rw [h, h1] <;> rfl) | simp_all) (.c (v := .bool false) rfl)) ?_)
  refine cons (opv (Ev.pickO (.t rfl) (.c (v := .bool true) rfl) (fun {_} h => by cases h; rfl) ⟨_, rfl⟩ (by intro h1 h; first | (rw [h] <;> rfl) | (rw [h1, h] <;> rfl) | (rw [h, h1] <;> rfl) | simp_all)) ?_)
  refine cons (opv (Ev.move (.t rfl)) (cons (opg rfl rfl (Ev.move (.t rfl)) ?_)))
  refine cons (opg rfl rfl (Ev.not (.g rfl id)) ?_)
  refine cons (opg rfl rfl (Ev.move (.g rfl id)) ?_)
  refine cons (opg rfl rfl (Ev.fieldAddr (o := 42) (.t rfl) (by kernel_rfl)) ?_)
  refine cons (opg rfl rfl (Ev.load (xv := m.dstPort) ty72 (.g rfl id) (ptsVar (by repeat first | exact mH | apply mT | apply mA) SMatch.l_dstPort)) ?_)
  refine cons (opg rfl rfl (Ev.ldv ty72 (.t rfl) (Lens.id _)) ?_)
  refine cons (opg rfl rfl (Ev.neqS rfl eqok72 rfl (by kernel_rfl) (.g rfl id) (.g rfl id)) ?_)
  refine cons (opg rfl rfl (Ev.pickA (.g rfl id) (fun {_} h => by cases h; rfl) ⟨_, rfl⟩ (by intro h1 h; first | (rw [h] <;> rfl) | (rw [h1, h] <;> rfl) | (rw [h, h1] <;> rfl) | simp_all) (.c (v := .bool false) rfl)) ?_)
  refine cons (opv (Ev.pickO (.t rfl) (.c (v := .bool true) rfl) (fun {_} h => by cases h; rfl) ⟨_, rfl⟩ (by intro h1 h; first | (rw [h] <;> rfl) | (rw [h1, h] <;> rfl) | (rw [h, h1] <;> rfl) | simp_all)) ?_)
  refine nil (pN ?_)
  first | refine condD rfl (fun h0 => ?_) (fun h0 => ?_) | refine cond rfl (fun h0 => ?_) (fun h0 => ?_)
  · refine seq (region (cons (opv (Ev.assign (.c (v := .bool false) rfl)) ?_)))
    refine nil (pN (ret (pR (done rfl (.tmp rfl .nil) (retE ?_)))))
    have hb : bad0 m = true := by simpa [bad0, Bool.or_assoc] using h0
    unfold okM; rw [hb]; rfl
  · refine skip (pN (seq (seq (region (cons (opv (Ev.fieldAddr (o := 1) (.t rfl) (by kernel_rfl)) ?_))))))
    refine cons (opv (Ev.fieldAddr (o := 0) (.t rfl) (by kernel_rfl)) ?_)
    refine cons (opv (Ev.load (xv := m.in_.from_) ty70 (.t rfl) (ptsVar (by repeat first | exact mH | apply mT | apply mA) (Lens.comp SMatch.l_in_ SSpan.l_from_))) ?_)
    refine cons (opv (Ev.fieldAddr (o := 1) (.t rfl) (by kernel_rfl)) ?_)
    refine cons (opv (Ev.fieldAddr (o := 1) (.t rfl) (by kernel_rfl)) ?_)
    refine cons (opv (Ev.load (xv := m.in_.to_) ty70 (.t rfl) (ptsVar (by repeat first | exact mH | apply mT | apply mA) (Lens.comp SMatch.l_in_ SSpan.l_to_))) ?_)
    refine cons (opv (Ev.gtr_u16 (.t rfl) (.t rfl)) ?_)
    refine cons (opv (Ev.move (.t rfl)) (cons (opg rfl rfl (Ev.fieldAddr (o := 1) (.t rfl) (by kernel_rfl)) ?_)))
    refine cons (opg rfl rfl (Ev.fieldAddr (o := 1) (.g rfl id) (by kernel_rfl)) ?_)
    refine cons (opg rfl rfl (Ev.load (xv := m.in_.to_) ty70 (.g rfl id) (ptsVar (by repeat first | exact mH | apply mT | apply mA) (Lens.comp SMatch.l_in_ SSpan.l_to_))) ?_)
    refine cons (opg rfl rfl (Ev.gtr_u16 (.g rfl id) (.c (v := U16 255) rfl)) ?_)
    refine cons (opv (Ev.pickO (.t rfl) (.c (v := .bool true) rfl) (fun {_} h => by cases h; rfl) ⟨_, rfl⟩ (by intro h1 h; first | (rw [h] <;> rfl) | (rw [h1, h] <;> rfl) | (rw [h, h1] <;> rfl) | simp_all)) ?_)
    refine cons (opv (Ev.move (.t rfl)) (cons (opg rfl rfl (Ev.fieldAddr (o := 40) (.t rfl) (by kernel_rfl)) ?_)))
    refine cons (opg rfl rfl (Ev.fieldAddr (o := 0) (.g rfl id) (by kernel_rfl)) ?_)
    refine cons (opg rfl rfl (Ev.load (xv := m.srcPort.from_) ty70 (.g rfl id) (ptsVar (by repeat first | exact mH | apply mT | apply mA) (Lens.comp SMatch.l_srcPort SSpan.l_from_))) ?_)
    refine cons (opg rfl rfl (Ev.fieldAddr (o := 40) (.t rfl) (by kernel_rfl)) ?_)
    refine cons (opg rfl rfl (Ev.fieldAddr (o := 1) (.g rfl id) (by kernel_rfl)) ?_)
    refine cons (opg rfl rfl (Ev.load (xv := m.srcPort.to_) ty70 (.g rfl id) (ptsVar (by repeat first | exact mH | apply mT | apply mA) (Lens.comp SMatch.l_srcPort SSpan.l_to_))) ?_)
    refine cons (opg rfl rfl (Ev.gtr_u16 (.g rfl id) (.g rfl id)) ?_)
    refine cons (opv (Ev.pickO (.t rfl) (.c (v := .bool true) rfl) (fun {_} h => by cases h; rfl) ⟨_, rfl⟩ (by intro h1 h; first | (rw [h] <;> rfl) | (rw [h1, h] <;> rfl) | (rw [h, h1] <;> rfl) | simp_all)) ?_)
    refine cons (opv (Ev.move (.t rfl)) (cons (opg rfl rfl (Ev.fieldAddr (o := 42) (.t rfl) (by kernel_rfl)) ?_)))
    refine cons (opg rfl rfl (Ev.fieldAddr (o := 0) (.g rfl id) (by kernel_rfl)) ?_)
    refine cons (opg rfl rfl (Ev.load (xv := m.dstPort.from_) ty70 (.g rfl id) (ptsVar (by repeat first | exact mH | apply mT | apply mA) (Lens.comp SMatch.l_dstPort SSpan.l_from_))) ?_)
    refine cons (opg rfl rfl (Ev.fieldAddr (o := 42) (.t rfl) (by kernel_rfl)) ?_)
    refine cons (opg rfl rfl (Ev.fieldAddr (o := 1) (.g rfl id) (by kernel_rfl)) ?_)
    refine cons (opg rfl rfl (Ev.load (xv := m.dstPort.to_) ty70 (.g rfl id) (ptsVar (by repeat first | exact mH | apply mT | apply mA) (Lens.comp SMatch.l_dstPort SSpan.l_to_))) ?_)
    refine cons (opg rfl rfl (Ev.gtr_u16 (.g rfl id) (.g rfl id)) ?_)
    refine cons (opv (Ev.pickO (.t rfl) (.c (v := .bool true) rfl) (fun {_} h => by cases h; rfl) ⟨_, rfl⟩ (by intro h1 h; first | (rw [h] <;> rfl) | (rw [h1, h] <;> rfl) | (rw [h, h1] <;> rfl) | simp_all)) ?_)
    refine nil (pN ?_)
    first | refine condD rfl (fun h1 => ?_) (fun h1 => ?_) | refine cond rfl (fun h1 => ?_) (fun h1 => ?_)
    · refine seq (region (cons (opv (Ev.assign (.c (v := .bool false) rfl)) ?_)))
      refine nil (pN (ret (pR (done rfl (.tmp rfl .nil) (retE ?_)))))
      have hb : bad1 m = true := by simpa [bad1, or_assoc] using h1
      unfold okM; rw [hb]; simp [tupV]
    · refine skip (pN (seq (seq (region (cons (opv (Ev.move (.t rfl)) (cons (opv (Ev.move (.t rfl)) (cons (opg rfl rfl (Ev.fieldAddr (o := 3) (.t rfl) (by kernel_rfl)) ?_))))))))))
      refine cons (opg rfl rfl (Ev.load (xv := m.src) ty50 (.g rfl id) (ptsVar (by repeat first | exact mH | apply mT | apply mA) SMatch.l_src)) ?_)
      refine cons (callg rfl rfl en185 (.cons (.g rfl id) .nil) (fun hg w I => rprefix_ok _ w) ?_)
      refine cons (opg rfl rfl (Ev.not (.g rfl id)) ?_)
      refine cons (opv (Ev.pickA (.t rfl) (fun {_} h => by cases h; rfl) ⟨_, rfl⟩ (by intro h1 h; first | (rw [h] <;> rfl) | (rw [h1, h] <;> rfl) | (rw [h, h1] <;> rfl) | simp_all) (.c (v := .bool false) rfl)) ?_)
      refine cons (opv (Ev.move (.t rfl)) (cons (opg rfl rfl (Ev.move (.t rfl)) ?_)))
      refine cons (opg rfl rfl (Ev.move (.g rfl id)) ?_)
      refine cons (opg rfl rfl (Ev.fieldAddr (o := 21) (.t rfl) (by kernel_rfl)) ?_)
      refine cons (opg rfl rfl (Ev.load (xv := m.dst) ty50 (.g rfl id) (ptsVar (by repeat first | exact mH | apply mT | apply mA) SMatch.l_dst)) ?_)
      refine cons (callg rfl rfl en185 (.cons (.g rfl id) .nil) (fun hg w I => rprefix_ok _ w) ?_)
      refine cons (opg rfl rfl (Ev.not (.g rfl id)) ?_)
      refine cons (opg rfl rfl (Ev.pickA (.g rfl id) (fun {_} h => by cases h; rfl) ⟨_, rfl⟩ (by intro h1 h; first | (rw [h] <;> rfl) | (rw [h1, h] <;> rfl) | (rw [h, h1] <;> rfl) | simp_all) (.c (v := .bool false) rfl)) ?_)
      refine cons (opv (Ev.pickO (.t rfl) (.c (v := .bool true) rfl) (fun {_} h => by cases h; rfl) ⟨_, rfl⟩ (by intro h1 h; first | (rw [h] <;> rfl) | (rw [h1, h] <;> rfl) | (rw [h, h1] <;> rfl) | simp_all)) ?_)
      refine cons (opv (Ev.move (.t rfl)) (cons (opg rfl rfl (Ev.move (.t rfl)) ?_)))
      refine cons (opg rfl rfl (Ev.move (.g rfl id)) ?_)
      refine cons (opg rfl rfl (Ev.move (.t rfl)) ?_)
      refine cons (opg rfl rfl (Ev.pickA (.g rfl id) (fun {_} h => by cases h; rfl) ⟨_, rfl⟩ (by intro h1 h; first | (rw [h] <;> rfl) | (rw [h1, h] <;> rfl) | (rw [h, h1] <;> rfl) | simp_all) (.c (v := .bool false) rfl)) ?_)
      refine cons (opg rfl rfl (Ev.move (.g rfl id)) ?_)
      refine cons (opg rfl rfl (Ev.fieldAddr (o := 3) (.t rfl) (by kernel_rfl)) ?_)
      refine cons (opg rfl rfl (Ev.fieldAddr (o := 0) (.g rfl id) (by kernel_rfl)) ?_)
      refine cons (opg rfl rfl (Ev.fieldAddr (o := 0) (.g rfl id) (by kernel_rfl)) ?_)
      refine cons (opg rfl rfl (Ev.load (xv := m.src.addr.v6) ty4 (.g rfl id) (ptsVar (by repeat first | exact mH | apply mT | apply mA) (Lens.comp (Lens.comp SMatch.l_src SPrefix.l_addr) SAddr.l_v6))) ?_)
      refine cons (opg rfl rfl (Ev.fieldAddr (o := 21) (.t rfl) (by kernel_rfl)) ?_)
      refine cons (opg rfl rfl (Ev.fieldAddr (o := 0) (.g rfl id) (by kernel_rfl)) ?_)
      refine cons (opg rfl rfl (Ev.fieldAddr (o := 0) (.g rfl id) (by kernel_rfl)) ?_)
      refine cons (opg rfl rfl (Ev.load (xv := m.dst.addr.v6) ty4 (.g rfl id) (ptsVar (by repeat first | exact mH | apply mT | apply mA) (Lens.comp (Lens.comp SMatch.l_dst SPrefix.l_addr) SAddr.l_v6))) ?_)
      refine cons (opg rfl rfl (Ev.neq_b Tryz.underlying4 (.g rfl id) (.g rfl id)) ?_)
      refine cons (opg rfl rfl (Ev.pickA (.g rfl id) (fun {_} h => by cases h; rfl) ⟨_, rfl⟩ (by intro h1 h; first | (rw [h] <;> rfl) | (rw [h1, h] <;> rfl) | (rw [h, h1] <;> rfl) | simp_all) (.c (v := .bool false) rfl)) ?_)
      refine cons (opv (Ev.pickO (.t rfl) (.c (v := .bool true) rfl) (fun {_} h => by cases h; rfl) ⟨_, rfl⟩ (by intro h1 h; first | (rw [h] <;> rfl) | (rw [h1, h] <;> rfl) | (rw [h, h1] <;> rfl) | simp_all)) ?_)
      refine nil (pN ?_)
      first | refine condD rfl (fun h2 => ?_) (fun h2 => ?_) | refine cond rfl (fun h2 => ?_) (fun h2 => ?_)
      · refine seq (region (cons (opv (Ev.assign (.c (v := .bool false) rfl)) ?_)))
        refine nil (pN (ret (pR (done rfl (.tmp rfl .nil) (retE ?_)))))
        have hb : bad2 m = true := by simpa [bad2, or_assoc, and_assoc] using h2
        unfold okM; rw [hb]; simp [tupV]
      · refine skip (pN (seq (region (cons (opv (Ev.move (.t rfl)) (cons (opv (Ev.not (.t rfl)) ?_)))))))
        refine cons (opv (Ev.move (.t rfl)) (cons (opg rfl rfl (Ev.move (.t rfl)) ?_)))
        refine cons (opg rfl rfl (Ev.not (.g rfl id)) ?_)
        refine cons (opv (Ev.pickA (.t rfl) (fun {_} h => by cases h; rfl) ⟨_, rfl⟩ (by intro h1 h; first | (rw [h] <;> rfl) | (rw [h1, h] <;> rfl) | (rw [h, h1] <;> rfl) | simp_all) (.c (v := .bool false) rfl)) ?_)
        refine cons (opv (Ev.move (.t rfl)) (cons (opg rfl rfl (Ev.move (.t rfl)) ?_)))
        refine cons (opg rfl rfl (Ev.move (.g rfl id)) ?_)
        refine cons (opg rfl rfl (Ev.fieldAddr (o := 39) (.t rfl) (by kernel_rfl)) ?_)
        refine cons (opg rfl rfl (Ev.load (xv := m.proto) ty5 (.g rfl id) (ptsVar (by repeat first | exact mH | apply mT | apply mA) SMatch.l_proto)) ?_)
        refine cons (callg rfl rfl en186 (.cons (.g rfl id) .nil) (fun hg w I => rports_ok _ w) ?_)
        refine cons (opg rfl rfl (Ev.pickA (.g rfl id) (fun {_} h => by cases h; rfl) ⟨_, rfl⟩ (by intro h1 h; first | (rw [h] <;> rfl) | (rw [h1, h] <;> rfl) | (rw [h, h1] <;> rfl) | simp_all) (.c (v := .bool false) rfl)) ?_)
        refine cons (opv (Ev.pickO (.t rfl) (.c (v := .bool true) rfl) (fun {_} h => by cases h; rfl) ⟨_, rfl⟩ (by intro h1 h; first | (rw [h] <;> rfl) | (rw [h1, h] <;> rfl) | (rw [h, h1] <;> rfl) | simp_all)) ?_)
        refine cons (opv (Ev.assign (.t rfl)) (nil (pN (ret (done rfl (.tmp rfl .nil) (retE ?_))))))
        have b0 : bad0 m = false := by unfold bad0; simpa using h0
        have b1 : bad1 m = false := h1
        have b2 : bad2 m = false := h2
        unfold okM; rw [b0, b1, b2]; simp [good3, tupV]

theorem en153 : Gx.Enters Tryz.prog 153 := Gx.Enters.mk' (by kernel_rfl)

theorem check_ok (m : SMatch) (w : World) : Calls Tryz.prog 117 #[eMatch.val m] w (RetV w (I (ckM m))) := by
  refine enter0 136 Tryz.func117 rfl rfl (Nat.le_of_ble_eq_true rfl) ?_
  refine seq (region (cons (box (E := eMatch) (.t rfl) (fun b1 => ?_))))
  refine cons (opv (Ev.assign (.c (v := I 0) rfl)) ?_)
  refine nil (pN (seq (region (cons (opv (Ev.assign (.c (v := U8 0) rfl)) ?_)))))
  refine nil (pN (cut (X := UInt8) (fun x : UInt8 => (x = addF (!decide (m.in_ = eSpan.zero)) 1 0)) (fun x : UInt8 => [(1, true, .pointer (some ⟨b1, 0, none⟩)), (3, true, U8 x)]) (fun x : UInt8 => [Var b1 eMatch m 74]) ?_ (fun x hx => ?_)))
  · refine seq (region (cons (opv (Ev.fieldAddr (o := 1) (.t rfl) (by kernel_rfl)) ?_)))
    refine cons (opv (Ev.load (xv := m.in_) ty72 (.t rfl) (ptsVar (by repeat first | exact mH | apply mT | apply mA) SMatch.l_in_)) ?_)
    refine cons (opv (Ev.buildS (fs := _) (places := [(0, 1), (1, 1)]) z72 rfl Tryz.underlying72 (by kernel_rfl) .nil Fills.nil) ?_)
    refine cons (opv (Ev.neqS rfl eqok72 rfl (by kernel_rfl) (.t rfl) (.t rfl)) ?_)
    refine nil (pN ?_)
    first | refine condD rfl (fun h0 => ?_) (fun h0 => ?_) | refine cond rfl (fun h0 => ?_) (fun h0 => ?_)
    · refine region (cons (opv (Ev.move (.t rfl)) (cons (opv (Ev.or_u8 (.t rfl) (.c (v := U8 1) rfl)) ?_))))
      refine cons (opv (Ev.assign (.t rfl)) (nil (pN (meet (X := UInt8) (_) ?_ (by repeat first | exact Sub.nil | refine Sub.cons rfl ?_) (by repeat first | exact sR | exact sN | apply sC | apply sS | apply sA)))))
      · try dsimp only
        all_goals (unfold addF; first | (simp_all; done) | rfl)
    · refine skip (pN (meet (X := UInt8) (_) ?_ (by repeat first | exact Sub.nil | refine Sub.cons rfl ?_) (by repeat first | exact sR | exact sN | apply sC | apply sS | apply sA)))
      · try dsimp only
        all_goals (unfold addF; first | (simp_all; done) | rfl)
  obtain ⟨k1, rfl⟩ : ∃ y, y = x := ⟨x, rfl⟩
  have hk1 : k1 = addF (!decide (m.in_ = eSpan.zero)) 1 0 := hx
  clear hx
  show Sat _ _ [(1, true, .pointer (some ⟨b1, 0, none⟩)), (3, true, U8 k1)] [Var b1 eMatch m 74]
  refine cut (X := UInt8) (fun x : UInt8 => (x = addF (!decide (m.src = ePrefix.zero)) 2 k1)) (fun x : UInt8 => [(1, true, .pointer (some ⟨b1, 0, none⟩)), (3, true, U8 x)]) (fun x : UInt8 => [Var b1 eMatch m 74]) ?_ (fun x hx => ?_)
  · refine seq (region (cons (opv (Ev.fieldAddr (o := 3) (.t rfl) (by kernel_rfl)) ?_)))
    refine cons (opv (Ev.load (xv := m.src) ty50 (.t rfl) (ptsVar (by repeat first | exact mH | apply mT | apply mA) SMatch.l_src)) ?_)
    refine cons (opv (Ev.buildS (fs := _) (places := [(0, 17), (17, 1)]) z50 rfl Tryz.underlying50 (by kernel_rfl) .nil Fills.nil) ?_)
    refine cons (opv (Ev.neqS rfl eqok50 rfl (by kernel_rfl) (.t rfl) (.t rfl)) ?_)
    refine nil (pN ?_)
    first | refine condD rfl (fun h1 => ?_) (fun h1 => ?_) | refine cond rfl (fun h1 => ?_) (fun h1 => ?_)
    · refine region (cons (opv (Ev.move (.t rfl)) (cons (opv (Ev.or_u8 (.t rfl) (.c (v := U8 2) rfl)) ?_))))
      refine cons (opv (Ev.assign (.t rfl)) (nil (pN (meet (X := UInt8) (_) ?_ (by repeat first | exact Sub.nil | refine Sub.cons rfl ?_) (by repeat first | exact sR | exact sN | apply sC | apply sS | apply sA)))))
      · try dsimp only
        all_goals (unfold addF; first | (simp_all; done) | rfl)
    · refine skip (pN (meet (X := UInt8) (_) ?_ (by repeat first | exact Sub.nil | refine Sub.cons rfl ?_) (by repeat first | exact sR | exact sN | apply sC | apply sS | apply sA)))
      · try dsimp only
        all_goals (unfold addF; first | (simp_all; done) | rfl)
  obtain ⟨k2, rfl⟩ : ∃ y, y = x := ⟨x, rfl⟩
  have hk2 : k2 = addF (!decide (m.src = ePrefix.zero)) 2 k1 := hx
  clear hx
  show Sat _ _ [(1, true, .pointer (some ⟨b1, 0, none⟩)), (3, true, U8 k2)] [Var b1 eMatch m 74]
  refine cut (X := UInt8) (fun x : UInt8 => (x = addF (!decide (m.dst = ePrefix.zero)) 4 k2)) (fun x : UInt8 => [(1, true, .pointer (some ⟨b1, 0, none⟩)), (3, true, U8 x)]) (fun x : UInt8 => [Var b1 eMatch m 74]) ?_ (fun x hx => ?_)
  · refine seq (region (cons (opv (Ev.fieldAddr (o := 21) (.t rfl) (by kernel_rfl)) ?_)))
    refine cons (opv (Ev.load (xv := m.dst) ty50 (.t rfl) (ptsVar (by repeat first | exact mH | apply mT | apply mA) SMatch.l_dst)) ?_)
    refine cons (opv (Ev.buildS (fs := _) (places := [(0, 17), (17, 1)]) z50 rfl Tryz.underlying50 (by kernel_rfl) .nil Fills.nil) ?_)
    refine cons (opv (Ev.neqS rfl eqok50 rfl (by kernel_rfl) (.t rfl) (.t rfl)) ?_)
    refine nil (pN ?_)
    first | refine condD rfl (fun h2 => ?_) (fun h2 => ?_) | refine cond rfl (fun h2 => ?_) (fun h2 => ?_)
    · refine region (cons (opv (Ev.move (.t rfl)) (cons (opv (Ev.or_u8 (.t rfl) (.c (v := U8 4) rfl)) ?_))))
      refine cons (opv (Ev.assign (.t rfl)) (nil (pN (meet (X := UInt8) (_) ?_ (by repeat first | exact Sub.nil | refine Sub.cons rfl ?_) (by repeat first | exact sR | exact sN | apply sC | apply sS | apply sA)))))
      · try dsimp only
        all_goals (unfold addF; first | (simp_all; done) | rfl)
    · refine skip (pN (meet (X := UInt8) (_) ?_ (by repeat first | exact Sub.nil | refine Sub.cons rfl ?_) (by repeat first | exact sR | exact sN | apply sC | apply sS | apply sA)))
      · try dsimp only
        all_goals (unfold addF; first | (simp_all; done) | rfl)
  obtain ⟨k3, rfl⟩ : ∃ y, y = x := ⟨x, rfl⟩
  have hk3 : k3 = addF (!decide (m.dst = ePrefix.zero)) 4 k2 := hx
  clear hx
  show Sat _ _ [(1, true, .pointer (some ⟨b1, 0, none⟩)), (3, true, U8 k3)] [Var b1 eMatch m 74]
  refine cut (X := UInt8) (fun x : UInt8 => (x = addF (decide (¬ m.proto = 0)) 8 k3)) (fun x : UInt8 => [(1, true, .pointer (some ⟨b1, 0, none⟩)), (3, true, U8 x)]) (fun x : UInt8 => [Var b1 eMatch m 74]) ?_ (fun x hx => ?_)
  · refine seq (region (cons (opv (Ev.fieldAddr (o := 39) (.t rfl) (by kernel_rfl)) ?_)))
    refine cons (opv (Ev.load (xv := m.proto) ty5 (.t rfl) (ptsVar (by repeat first | exact mH | apply mT | apply mA) SMatch.l_proto)) ?_)
    refine cons (opv (Ev.neq_u8 (.t rfl) (.c (v := U8 0) rfl)) ?_)
    refine nil (pN ?_)
    first | refine condD rfl (fun h3 => ?_) (fun h3 => ?_) | refine cond rfl (fun h3 => ?_) (fun h3 => ?_)
    · refine region (cons (opv (Ev.move (.t rfl)) (cons (opv (Ev.or_u8 (.t rfl) (.c (v := U8 8) rfl)) ?_))))
      refine cons (opv (Ev.assign (.t rfl)) (nil (pN (meet (X := UInt8) (_) ?_ (by repeat first | exact Sub.nil | refine Sub.cons rfl ?_) (by repeat first | exact sR | exact sN | apply sC | apply sS | apply sA)))))
      · try dsimp only
        all_goals (unfold addF; first | (simp_all; done) | rfl)
    · refine skip (pN (meet (X := UInt8) (_) ?_ (by repeat first | exact Sub.nil | refine Sub.cons rfl ?_) (by repeat first | exact sR | exact sN | apply sC | apply sS | apply sA)))
      · try dsimp only
        all_goals (unfold addF; first | (simp_all; done) | rfl)
  obtain ⟨k4, rfl⟩ : ∃ y, y = x := ⟨x, rfl⟩
  have hk4 : k4 = addF (decide (¬ m.proto = 0)) 8 k3 := hx
  clear hx
  show Sat _ _ [(1, true, .pointer (some ⟨b1, 0, none⟩)), (3, true, U8 k4)] [Var b1 eMatch m 74]
  refine cut (X := UInt8) (fun x : UInt8 => (x = addF (!decide (m.srcPort = eSpan.zero)) 16 k4)) (fun x : UInt8 => [(1, true, .pointer (some ⟨b1, 0, none⟩)), (3, true, U8 x)]) (fun x : UInt8 => [Var b1 eMatch m 74]) ?_ (fun x hx => ?_)
  · refine seq (region (cons (opv (Ev.fieldAddr (o := 40) (.t rfl) (by kernel_rfl)) ?_)))
    refine cons (opv (Ev.load (xv := m.srcPort) ty72 (.t rfl) (ptsVar (by repeat first | exact mH | apply mT | apply mA) SMatch.l_srcPort)) ?_)
    refine cons (opv (Ev.buildS (fs := _) (places := [(0, 1), (1, 1)]) z72 rfl Tryz.underlying72 (by kernel_rfl) .nil Fills.nil) ?_)
    refine cons (opv (Ev.neqS rfl eqok72 rfl (by kernel_rfl) (.t rfl) (.t rfl)) ?_)
    refine nil (pN ?_)
    first | refine condD rfl (fun h4 => ?_) (fun h4 => ?_) | refine cond rfl (fun h4 => ?_) (fun h4 => ?_)
    · refine region (cons (opv (Ev.move (.t rfl)) (cons (opv (Ev.or_u8 (.t rfl) (.c (v := U8 16) rfl)) ?_))))
      refine cons (opv (Ev.assign (.t rfl)) (nil (pN (meet (X := UInt8) (_) ?_ (by repeat first | exact Sub.nil | refine Sub.cons rfl ?_) (by repeat first | exact sR | exact sN | apply sC | apply sS | apply sA)))))
      · try dsimp only
        all_goals (unfold addF; first | (simp_all; done) | rfl)
    · refine skip (pN (meet (X := UInt8) (_) ?_ (by repeat first | exact Sub.nil | refine Sub.cons rfl ?_) (by repeat first | exact sR | exact sN | apply sC | apply sS | apply sA)))
      · try dsimp only
        all_goals (unfold addF; first | (simp_all; done) | rfl)
  obtain ⟨k5, rfl⟩ : ∃ y, y = x := ⟨x, rfl⟩
  have hk5 : k5 = addF (!decide (m.srcPort = eSpan.zero)) 16 k4 := hx
  clear hx
  show Sat _ _ [(1, true, .pointer (some ⟨b1, 0, none⟩)), (3, true, U8 k5)] [Var b1 eMatch m 74]
  refine cut (X := UInt8) (fun x : UInt8 => (x = addF (!decide (m.dstPort = eSpan.zero)) 32 k5)) (fun x : UInt8 => [(1, true, .pointer (some ⟨b1, 0, none⟩)), (3, true, U8 x)]) (fun x : UInt8 => [Var b1 eMatch m 74]) ?_ (fun x hx => ?_)
  · refine seq (region (cons (opv (Ev.fieldAddr (o := 42) (.t rfl) (by kernel_rfl)) ?_)))
    refine cons (opv (Ev.load (xv := m.dstPort) ty72 (.t rfl) (ptsVar (by repeat first | exact mH | apply mT | apply mA) SMatch.l_dstPort)) ?_)
    refine cons (opv (Ev.buildS (fs := _) (places := [(0, 1), (1, 1)]) z72 rfl Tryz.underlying72 (by kernel_rfl) .nil Fills.nil) ?_)
    refine cons (opv (Ev.neqS rfl eqok72 rfl (by kernel_rfl) (.t rfl) (.t rfl)) ?_)
    refine nil (pN ?_)
    first | refine condD rfl (fun h5 => ?_) (fun h5 => ?_) | refine cond rfl (fun h5 => ?_) (fun h5 => ?_)
    · refine region (cons (opv (Ev.move (.t rfl)) (cons (opv (Ev.or_u8 (.t rfl) (.c (v := U8 32) rfl)) ?_))))
      refine cons (opv (Ev.assign (.t rfl)) (nil (pN (meet (X := UInt8) (_) ?_ (by repeat first | exact Sub.nil | refine Sub.cons rfl ?_) (by repeat first | exact sR | exact sN | apply sC | apply sS | apply sA)))))
      · try dsimp only
        all_goals (unfold addF; first | (simp_all; done) | rfl)
    · refine skip (pN (meet (X := UInt8) (_) ?_ (by repeat first | exact Sub.nil | refine Sub.cons rfl ?_) (by repeat first | exact sR | exact sN | apply sC | apply sS | apply sA)))
      · try dsimp only
        all_goals (unfold addF; first | (simp_all; done) | rfl)
  obtain ⟨k6, rfl⟩ : ∃ y, y = x := ⟨x, rfl⟩
  have hk6 : k6 = addF (!decide (m.dstPort = eSpan.zero)) 32 k5 := hx
  clear hx
  show Sat _ _ [(1, true, .pointer (some ⟨b1, 0, none⟩)), (3, true, U8 k6)] [Var b1 eMatch m 74]
  refine seq (region (cons (opv (Ev.move (.t rfl)) (cons (opv (Ev.fieldAddr (o := 0) (.t rfl) (by kernel_rfl)) ?_)))))
  refine cons (opv (Ev.load (xv := m.asks) ty5 (.t rfl) (ptsVar (by repeat first | exact mH | apply mT | apply mA) SMatch.l_asks)) ?_)
  refine cons (opv (Ev.andNot_u8 (.t rfl) (.t rfl)) ?_)
  refine cons (opv (Ev.assign (.t rfl)) (nil (pN (seq (region (cons (opv (Ev.load (xv := m) ty74 (.t rfl) (ptsVar (by repeat first | exact mH | apply mT | apply mA) (Lens.id _))) ?_)))))))
  refine cons (callv en153 (.cons (.t rfl) (.cons (.c (v := U8 48) rfl) .nil)) (fun w I => asks_ok _ _ w) ?_)
  refine cons (opv (Ev.assign (.t rfl)) (nil (pN (seq (block (seq (region ?_)))))))
  have hhb := has_bad m (!decide (m.in_ = eSpan.zero)) (!decide (m.src = ePrefix.zero)) (!decide (m.dst = ePrefix.zero)) (decide (¬ m.proto = 0)) (!decide (m.srcPort = eSpan.zero)) (!decide (m.dstPort = eSpan.zero))
  rw [← hk1, ← hk2, ← hk3, ← hk4, ← hk5, ← hk6] at hhb
  refine cons (opv (Ev.fieldAddr (o := 0) (.t rfl) (by kernel_rfl)) ?_)
  refine cons (opv (Ev.load (xv := m.asks) ty5 (.t rfl) (ptsVar (by repeat first | exact mH | apply mT | apply mA) SMatch.l_asks)) ?_)
  refine cons (opv (Ev.andNot_u8 (.t rfl) (.c (v := U8 63) rfl)) ?_)
  refine cons (opv (Ev.neq_u8 (.t rfl) (.c (v := U8 0) rfl)) ?_)
  refine cons (opv (Ev.move (.t rfl)) (cons (opg rfl rfl (Ev.move (.t rfl)) ?_)))
  refine cons (opg rfl rfl (Ev.neq_u8 (.g rfl id) (.c (v := U8 0) rfl)) ?_)
  refine cons (opv (Ev.pickO (.t rfl) (.c (v := .bool true) rfl) (fun {_} h => by cases h; rfl) ⟨_, rfl⟩ (by intro h1 h; first | (rw [h] <;> rfl) | (rw [h1, h] <;> rfl) | (rw [h, h1] <;> rfl) | simp_all)) ?_)
  refine cons (opv (Ev.assign (.t rfl)) (nil (pN ?_)))
  first | refine condD rfl (fun h6 => ?_) (fun h6 => ?_) | refine cond rfl (fun h6 => ?_) (fun h6 => ?_)
  · refine seq (region (cons (opv (Ev.assign (.c (v := I 190) rfl)) ?_)))
    refine nil (pN (ret (bR (pR (done rfl (.tmp rfl .nil) (retE ?_))))))
    have hb : bad0 m = true := hhb.symm.trans h6
    unfold ckM okM; rw [hb]; rfl
  · refine seq (region (cons (opv (Ev.fieldAddr (o := 1) (.t rfl) (by kernel_rfl)) ?_)))
    refine cons (opv (Ev.fieldAddr (o := 0) (.t rfl) (by kernel_rfl)) ?_)
    refine cons (opv (Ev.load (xv := m.in_.from_) ty70 (.t rfl) (ptsVar (by repeat first | exact mH | apply mT | apply mA) (Lens.comp SMatch.l_in_ SSpan.l_from_))) ?_)
    refine cons (opv (Ev.fieldAddr (o := 1) (.t rfl) (by kernel_rfl)) ?_)
    refine cons (opv (Ev.fieldAddr (o := 1) (.t rfl) (by kernel_rfl)) ?_)
    refine cons (opv (Ev.load (xv := m.in_.to_) ty70 (.t rfl) (ptsVar (by repeat first | exact mH | apply mT | apply mA) (Lens.comp SMatch.l_in_ SSpan.l_to_))) ?_)
    refine cons (opv (Ev.gtr_u16 (.t rfl) (.t rfl)) ?_)
    refine cons (opv (Ev.move (.t rfl)) (cons (opg rfl rfl (Ev.fieldAddr (o := 1) (.t rfl) (by kernel_rfl)) ?_)))
    refine cons (opg rfl rfl (Ev.fieldAddr (o := 1) (.g rfl id) (by kernel_rfl)) ?_)
    refine cons (opg rfl rfl (Ev.load (xv := m.in_.to_) ty70 (.g rfl id) (ptsVar (by repeat first | exact mH | apply mT | apply mA) (Lens.comp SMatch.l_in_ SSpan.l_to_))) ?_)
    refine cons (opg rfl rfl (Ev.gtr_u16 (.g rfl id) (.c (v := U16 255) rfl)) ?_)
    refine cons (opv (Ev.pickO (.t rfl) (.c (v := .bool true) rfl) (fun {_} h => by cases h; rfl) ⟨_, rfl⟩ (by intro h1 h; first | (rw [h] <;> rfl) | (rw [h1, h] <;> rfl) | (rw [h, h1] <;> rfl) | simp_all)) ?_)
    refine cons (opv (Ev.move (.t rfl)) (cons (opg rfl rfl (Ev.fieldAddr (o := 40) (.t rfl) (by kernel_rfl)) ?_)))
    refine cons (opg rfl rfl (Ev.fieldAddr (o := 0) (.g rfl id) (by kernel_rfl)) ?_)
    refine cons (opg rfl rfl (Ev.load (xv := m.srcPort.from_) ty70 (.g rfl id) (ptsVar (by repeat first | exact mH | apply mT | apply mA) (Lens.comp SMatch.l_srcPort SSpan.l_from_))) ?_)
    refine cons (opg rfl rfl (Ev.fieldAddr (o := 40) (.t rfl) (by kernel_rfl)) ?_)
    refine cons (opg rfl rfl (Ev.fieldAddr (o := 1) (.g rfl id) (by kernel_rfl)) ?_)
    refine cons (opg rfl rfl (Ev.load (xv := m.srcPort.to_) ty70 (.g rfl id) (ptsVar (by repeat first | exact mH | apply mT | apply mA) (Lens.comp SMatch.l_srcPort SSpan.l_to_))) ?_)
    refine cons (opg rfl rfl (Ev.gtr_u16 (.g rfl id) (.g rfl id)) ?_)
    refine cons (opv (Ev.pickO (.t rfl) (.c (v := .bool true) rfl) (fun {_} h => by cases h; rfl) ⟨_, rfl⟩ (by intro h1 h; first | (rw [h] <;> rfl) | (rw [h1, h] <;> rfl) | (rw [h, h1] <;> rfl) | simp_all)) ?_)
    refine cons (opv (Ev.move (.t rfl)) (cons (opg rfl rfl (Ev.fieldAddr (o := 42) (.t rfl) (by kernel_rfl)) ?_)))
    refine cons (opg rfl rfl (Ev.fieldAddr (o := 0) (.g rfl id) (by kernel_rfl)) ?_)
    refine cons (opg rfl rfl (Ev.load (xv := m.dstPort.from_) ty70 (.g rfl id) (ptsVar (by repeat first | exact mH | apply mT | apply mA) (Lens.comp SMatch.l_dstPort SSpan.l_from_))) ?_)
    refine cons (opg rfl rfl (Ev.fieldAddr (o := 42) (.t rfl) (by kernel_rfl)) ?_)
    refine cons (opg rfl rfl (Ev.fieldAddr (o := 1) (.g rfl id) (by kernel_rfl)) ?_)
    refine cons (opg rfl rfl (Ev.load (xv := m.dstPort.to_) ty70 (.g rfl id) (ptsVar (by repeat first | exact mH | apply mT | apply mA) (Lens.comp SMatch.l_dstPort SSpan.l_to_))) ?_)
    refine cons (opg rfl rfl (Ev.gtr_u16 (.g rfl id) (.g rfl id)) ?_)
    refine cons (opv (Ev.pickO (.t rfl) (.c (v := .bool true) rfl) (fun {_} h => by cases h; rfl) ⟨_, rfl⟩ (by intro h1 h; first | (rw [h] <;> rfl) | (rw [h1, h] <;> rfl) | (rw [h, h1] <;> rfl) | simp_all)) ?_)
    refine cons (opv (Ev.assign (.t rfl)) (nil (pN ?_)))
    first | refine condD rfl (fun h7 => ?_) (fun h7 => ?_) | refine cond rfl (fun h7 => ?_) (fun h7 => ?_)
    · refine seq (region (cons (opv (Ev.assign (.c (v := I 190) rfl)) ?_)))
      refine nil (pN (ret (bR (pR (done rfl (.tmp rfl .nil) (retE ?_))))))
      have hb : bad1 m = true := h7
      unfold ckM okM; rw [hb]; simp [tupV]
    · refine seq (region (cons (opv (Ev.load (xv := m) ty74 (.t rfl) (ptsVar (by repeat first | exact mH | apply mT | apply mA) (Lens.id _))) ?_)))
      refine cons (callv en153 (.cons (.t rfl) (.cons (.c (v := U8 2) rfl) .nil)) (fun w I => asks_ok _ _ w) ?_)
      refine cons (opv (Ev.move (.t rfl)) (cons (opg rfl rfl (Ev.fieldAddr (o := 3) (.t rfl) (by kernel_rfl)) ?_)))
      refine cons (opg rfl rfl (Ev.load (xv := m.src) ty50 (.g rfl id) (ptsVar (by repeat first | exact mH | apply mT | apply mA) SMatch.l_src)) ?_)
      refine cons (callg rfl rfl en114 (.cons (.g rfl id) .nil) (fun hg w I => checkP_ok _ w) ?_)
      refine cons (opg rfl rfl (Ev.neq_i (.g rfl id) (.c (v := I 0) rfl)) ?_)
      refine cons (opv (Ev.pickA (.t rfl) (fun {_} h => by cases h; rfl) ⟨_, rfl⟩ (by intro h1 h; first | (rw [h] <;> rfl) | (rw [h1, h] <;> rfl) | (rw [h, h1] <;> rfl) | simp_all) (.c (v := .bool false) rfl)) ?_)
      refine cons (opv (Ev.move (.t rfl)) (cons (opg rfl rfl (Ev.load (xv := m) ty74 (.t rfl) (ptsVar (by repeat first | exact mH | apply mT | apply mA) (Lens.id _))) ?_)))
      refine cons (callg rfl rfl en153 (.cons (.g rfl id) (.cons (.c (v := U8 4) rfl) .nil)) (fun hg w I => asks_ok _ _ w) ?_)
      refine cons (opg rfl rfl (Ev.move (.g rfl id)) ?_)
      refine cons (opg rfl rfl (Ev.fieldAddr (o := 21) (.t rfl) (by kernel_rfl)) ?_)
      refine cons (opg rfl rfl (Ev.load (xv := m.dst) ty50 (.g rfl id) (ptsVar (by repeat first | exact mH | apply mT | apply mA) SMatch.l_dst)) ?_)
      refine cons (callg rfl rfl en114 (.cons (.g rfl id) .nil) (fun hg w I => checkP_ok _ w) ?_)
      refine cons (opg rfl rfl (Ev.neq_i (.g rfl id) (.c (v := I 0) rfl)) ?_)
      refine cons (opg rfl rfl (Ev.pickA (.g rfl id) (fun {_} h => by cases h; rfl) ⟨_, rfl⟩ (by intro h1 h; first | (rw [h] <;> rfl) | (rw [h1, h] <;> rfl) | (rw [h, h1] <;> rfl) | simp_all) (.c (v := .bool false) rfl)) ?_)
      refine cons (opv (Ev.pickO (.t rfl) (.c (v := .bool true) rfl) (fun {_} h => by cases h; rfl) ⟨_, rfl⟩ (by intro h1 h; first | (rw [h] <;> rfl) | (rw [h1, h] <;> rfl) | (rw [h, h1] <;> rfl) | simp_all)) ?_)
      refine cons (opv (Ev.assign (.t rfl)) (nil (pN ?_)))
      first | refine condD rfl (fun h8 => ?_) (fun h8 => ?_) | refine cond rfl (fun h8 => ?_) (fun h8 => ?_)
      · refine seq (region (cons (opv (Ev.assign (.c (v := I 190) rfl)) ?_)))
        refine nil (pN (ret (bR (pR (done rfl (.tmp rfl .nil) (retE ?_))))))
        have hb : bad2 m = true := by unfold bad2; simp only [Bool.or_eq_true] at h8 ⊢; left; simpa using h8
        unfold ckM okM; rw [hb]; simp [tupV]
      · refine seq (region (cons (opv (Ev.load (xv := m) ty74 (.t rfl) (ptsVar (by repeat first | exact mH | apply mT | apply mA) (Lens.id _))) ?_)))
        refine cons (callv en153 (.cons (.t rfl) (.cons (.c (v := U8 2) rfl) .nil)) (fun w I => asks_ok _ _ w) ?_)
        refine cons (opv (Ev.move (.t rfl)) (cons (opg rfl rfl (Ev.load (xv := m) ty74 (.t rfl) (ptsVar (by repeat first | exact mH | apply mT | apply mA) (Lens.id _))) ?_)))
        refine cons (callg rfl rfl en153 (.cons (.g rfl id) (.cons (.c (v := U8 4) rfl) .nil)) (fun hg w I => asks_ok _ _ w) ?_)
        refine cons (opv (Ev.pickA (.t rfl) (fun {_} h => by cases h; rfl) ⟨_, rfl⟩ (by intro h1 h; first | (rw [h] <;> rfl) | (rw [h1, h] <;> rfl) | (rw [h, h1] <;> rfl) | simp_all) (.c (v := .bool false) rfl)) ?_)
        refine cons (opv (Ev.move (.t rfl)) (cons (opg rfl rfl (Ev.fieldAddr (o := 3) (.t rfl) (by kernel_rfl)) ?_)))
        refine cons (opg rfl rfl (Ev.fieldAddr (o := 0) (.g rfl id) (by kernel_rfl)) ?_)
        refine cons (opg rfl rfl (Ev.fieldAddr (o := 0) (.g rfl id) (by kernel_rfl)) ?_)
        refine cons (opg rfl rfl (Ev.load (xv := m.src.addr.v6) ty4 (.g rfl id) (ptsVar (by repeat first | exact mH | apply mT | apply mA) (Lens.comp (Lens.comp SMatch.l_src SPrefix.l_addr) SAddr.l_v6))) ?_)
        refine cons (opg rfl rfl (Ev.fieldAddr (o := 21) (.t rfl) (by kernel_rfl)) ?_)
        refine cons (opg rfl rfl (Ev.fieldAddr (o := 0) (.g rfl id) (by kernel_rfl)) ?_)
        refine cons (opg rfl rfl (Ev.fieldAddr (o := 0) (.g rfl id) (by kernel_rfl)) ?_)
        refine cons (opg rfl rfl (Ev.load (xv := m.dst.addr.v6) ty4 (.g rfl id) (ptsVar (by repeat first | exact mH | apply mT | apply mA) (Lens.comp (Lens.comp SMatch.l_dst SPrefix.l_addr) SAddr.l_v6))) ?_)
        refine cons (opg rfl rfl (Ev.neq_b Tryz.underlying4 (.g rfl id) (.g rfl id)) ?_)
        refine cons (opv (Ev.pickA (.t rfl) (fun {_} h => by cases h; rfl) ⟨_, rfl⟩ (by intro h1 h; first | (rw [h] <;> rfl) | (rw [h1, h] <;> rfl) | (rw [h, h1] <;> rfl) | simp_all) (.c (v := .bool false) rfl)) ?_)
        refine cons (opv (Ev.assign (.t rfl)) (nil (pN ?_)))
        first | refine condD rfl (fun h9 => ?_) (fun h9 => ?_) | refine cond rfl (fun h9 => ?_) (fun h9 => ?_)
        · refine seq (region (cons (opv (Ev.assign (.c (v := I 190) rfl)) ?_)))
          refine nil (pN (ret (bR (pR (done rfl (.tmp rfl .nil) (retE ?_))))))
          have hb : bad2 m = true := by unfold bad2; simp only [Bool.or_eq_true] at h9 ⊢; right; exact h9
          unfold ckM okM; rw [hb]; simp [tupV]
        · refine seq (region (cons (opv (Ev.move (.t rfl)) (cons (opv (Ev.move (.t rfl)) (cons (opg rfl rfl (Ev.fieldAddr (o := 39) (.t rfl) (by kernel_rfl)) ?_)))))))
          refine cons (opg rfl rfl (Ev.load (xv := m.proto) ty5 (.g rfl id) (ptsVar (by repeat first | exact mH | apply mT | apply mA) SMatch.l_proto)) ?_)
          refine cons (opg rfl rfl (Ev.neq_u8 (.g rfl id) (.c (v := U8 6) rfl)) ?_)
          refine cons (opv (Ev.pickA (.t rfl) (fun {_} h => by cases h; rfl) ⟨_, rfl⟩ (by intro h1 h; first | (rw [h] <;> rfl) | (rw [h1, h] <;> rfl) | (rw [h, h1] <;> rfl) | simp_all) (.c (v := .bool false) rfl)) ?_)
          refine cons (opv (Ev.move (.t rfl)) (cons (opg rfl rfl (Ev.fieldAddr (o := 39) (.t rfl) (by kernel_rfl)) ?_)))
          refine cons (opg rfl rfl (Ev.load (xv := m.proto) ty5 (.g rfl id) (ptsVar (by repeat first | exact mH | apply mT | apply mA) SMatch.l_proto)) ?_)
          refine cons (opg rfl rfl (Ev.neq_u8 (.g rfl id) (.c (v := U8 17) rfl)) ?_)
          refine cons (opv (Ev.pickA (.t rfl) (fun {_} h => by cases h; rfl) ⟨_, rfl⟩ (by intro h1 h; first | (rw [h] <;> rfl) | (rw [h1, h] <;> rfl) | (rw [h, h1] <;> rfl) | simp_all) (.c (v := .bool false) rfl)) ?_)
          refine cons (opv (Ev.assign (.t rfl)) (nil (pN ?_)))
          first | refine condD rfl (fun h10 => ?_) (fun h10 => ?_) | refine cond rfl (fun h10 => ?_) (fun h10 => ?_)
          · refine seq (region (cons (opv (Ev.assign (.c (v := I 190) rfl)) ?_)))
            refine nil (pN (ret (bR (pR (done rfl (.tmp rfl .nil) (retE ?_))))))
            have hb : good3 m = false := by
              rw [asks48] at h10
              simp at h10
              obtain ⟨⟨ha, hb6⟩, hb17⟩ := h10
              unfold good3 portsB
              simp [hb6, hb17]
              intro h16
              simpa [h16] using ha
            unfold ckM okM; rw [hb]; simp [tupV]
          · refine skip (bN (pN (seq (region (cons (opv (Ev.assign (.c (v := I 0) rfl)) ?_))))))
            refine nil (pN (ret (done rfl (.tmp rfl .nil) (retE ?_))))
            have b0 : bad0 m = false := hhb.symm.trans h6
            have b1 : bad1 m = false := h7
            have b2 : bad2 m = false := by
              unfold bad2
              simp at h8 h9 ⊢
              exact ⟨h8, h9⟩
            have hp : asksB m 8 = false → m.proto = 0 := by
              unfold bad0 at b0
              simp at b0
              exact b0.1.1.2
            rw [asks48] at h10
            have hg : good3 m = true := good3_of m (by simpa using h10) hp
            unfold ckM okM
            rw [b0, b1, b2, hg]
            rfl
end Go.Proofs.YtnoobdijbpmjkaaGreat
