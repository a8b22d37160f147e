/- rule -/
import Derived.Test.YtkmdhmfgbgngeaaR8
set_option linter.unusedVariables false
set_option linter.unusedSimpArgs false
namespace Go.Proofs.Ytkmdhmfgbgngeaa
open Go Go.Gx

theorem clos_len (m : SMatch) (p : Nat) : (clos m p).length = (ks m).length := by simp [clos, closL]
theorem ksA_len (c : Bool) (k : Nat) (l : List Nat) : (ksA c k l).length ≤ l.length + 1 := by unfold ksA; cases c <;> simp
theorem ks_len (m : SMatch) : (ks m).length ≤ 6 := by
  unfold ks
  have h1 := ksA_len (asksB m 1) 0 []
  have h2 := ksA_len (asksB m 8) 1 (ksA (asksB m 1) 0 [])
  have h3 := ksA_len (asksB m 2) 2 (ksA (asksB m 8) 1 (ksA (asksB m 1) 0 []))
  have h4 := ksA_len (asksB m 4) 3 (ksA (asksB m 2) 2 (ksA (asksB m 8) 1 (ksA (asksB m 1) 0 [])))
  have h5 := ksA_len (asksB m 16) 4 (ksA (asksB m 4) 3 (ksA (asksB m 2) 2 (ksA (asksB m 8) 1 (ksA (asksB m 1) 0 []))))
  have h6 := ksA_len (asksB m 32) 5 (ksA (asksB m 16) 4 (ksA (asksB m 4) 3 (ksA (asksB m 2) 2 (ksA (asksB m 8) 1 (ksA (asksB m 1) 0 [])))))
  have h0 : ([] : List Nat).length = 0 := rfl
  omega
theorem clos_get (m : SMatch) (p : Nat) (i : Nat) (h : i < (ks m).length) : (clos m p).getD i nilFn = clo (fM ((ks m).getD i 0)) [.pointer (some ⟨p, 0, none⟩)] := by
  simp [clos, closL, List.getD, h]
theorem getD_mem {α : Type} (l : List α) (i : Nat) (d : α) (h : i < l.length) : l.getD i d ∈ l := by simp [List.getD, h]

theorem meetsL_ok (u : Value) (m : SMatch) (n : Int) (h : SHeader) (p hp : Nat) (w : World) (hs : IsSl (ovE nilFn) w u (clos m p)) (hm : PtsTo eMatch w p 0 m) (hh : PtsTo eHeader w hp 0 h) : Calls Try.prog 36 #[u, I n, .pointer (some ⟨hp, 0, none⟩)] w (RetV w (.bool (metB m n h))) := by
  have hle := hs.le
  have hcl := clos_len m p
  refine enter0 21 Try.func36 rfl rfl (Nat.le_of_ble_eq_true rfl) ?_
  refine seq ?_
  refine region ?_
  refine cons (opv (Ev.assign (.c (v := .bool false) rfl)) ?_)
  refine nil ?_
  refine pN ?_
  refine seq ?_
  refine seq ?_
  refine region ?_
  refine cons (opv (Ev.move (.t rfl)) ?_)
  refine cons (opv (Ev.len Try.underlying72 (.t rfl) (by first | exact isSl_own (by repeat first | exact mH | apply mT | apply mA) | exact fun w I => IsSl.keep0 (by assumption) I.keeps)) ?_)
  refine cons (opv (Ev.move (.c (v := I 0) rfl)) ?_)
  refine nil ?_
  refine pN ?_
  refine block ?_
  refine loop (X := Int) (fun x : Int => (0 ≤ x ∧ x ≤ (clos m p).length) ∧ (((ks m).take x.toNat).all (fun k => qM k m n h) = true)) (fun x : Int => [(1, true, I n), (2, true, .pointer (some ⟨hp, 0, none⟩)), (9, true, u), (10, true, I (clos m p).length), (11, true, I x)]) (fun x : Int => []) (fun x : Int => ((clos m p).length - x).toNat) (0) ⟨?_, ?_⟩ (by repeat first | exact Sub.nil | refine Sub.cons rfl ?_) (by repeat first | exact sR | exact sN | apply sC | apply sS | apply sA) (fun x hx => ?_)
  · omega
  · rfl
  obtain ⟨i, rfl⟩ : ∃ y, y = x := ⟨x, rfl⟩
  obtain ⟨hi, hq⟩ : (0 ≤ i ∧ i ≤ (clos m p).length) ∧ (((ks m).take i.toNat).all (fun k => qM k m n h) = true) := hx
  show Sat _ _ [(1, true, I n), (2, true, .pointer (some ⟨hp, 0, none⟩)), (9, true, u), (10, true, I (clos m p).length), (11, true, I i)] []
  refine seq ?_
  refine region ?_
  refine cons (opv (Ev.lss_i (.t rfl) (.t rfl)) ?_)
  refine nil ?_
  refine pN ?_
  refine seq ?_
  first | refine condD rfl (fun hlt => ?_) (fun hge => ?_) | refine cond rfl (fun hlt => ?_) (fun hge => ?_)
  · try simp only [Bool.and_eq_true, Bool.or_eq_true, Bool.or_eq_false_iff, Bool.and_eq_false_iff, Bool.not_eq_true', Bool.not_eq_false', decide_eq_true_eq, decide_eq_false_iff_not, Decidable.not_not] at hlt
    refine skip ?_
    refine pN ?_
    refine seq ?_
    refine block ?_
    refine seq ?_
    refine region ?_
    refine cons (opv (Ev.indexAddr Try.underlying72 ty97 (.t rfl) (.t rfl) (by first | exact isSl_own (by repeat first | exact mH | apply mT | apply mA) | exact fun w I => IsSl.keep0 (by assumption) I.keeps) (fun _ => by omega)) ?_)
    refine cons (opv (Ev.loadS0 ty97 (.t rfl) (by first | exact isSl_own (by repeat first | exact mH | apply mT | apply mA) | exact fun w I => IsSl.keep0 (by assumption) I.keeps) (fun _ => by omega)) ?_)
    refine cons (opv (Ev.assign (.t rfl)) ?_)
    refine nil ?_
    refine pN ?_
    refine seq ?_
    refine region ?_
    have hil : i.toNat < (ks m).length := by omega
    have hk6 := ks_lt (getD_mem (ks m) i.toNat 0 hil)
    refine cons (opv (Ev.to (v' := (clo (fM ((ks m).getD i.toNat 0)) [.pointer (some ⟨p, 0, none⟩)]).v) (Ev.move (.t rfl)) (by show ((clos m p).getD i.toNat nilFn).v = _; rw [clos_get m p _ hil])) ?_)
    refine cons (opv (Ev.move (.t rfl)) ?_)
    refine cons (opv (Ev.move (.t rfl)) ?_)
    refine cons (callcv (.t rfl) (cl_en _ hk6) (.cons (.t rfl) (.cons (.t rfl) .nil)) (fun w I => cl_ok _ hk6 m n h p hp w (hm.keep I.keeps) (hh.keep I.keeps)) ?_)
    refine cons (opv (Ev.not (.t rfl)) ?_)
    refine nil ?_
    refine pN ?_
    first | refine condD rfl (fun h1 => ?_) (fun h1 => ?_) | refine cond rfl (fun h1 => ?_) (fun h1 => ?_)
    · refine seq ?_
      refine region ?_
      refine cons (opv (Ev.assign (.c (v := .bool false) rfl)) ?_)
      refine nil ?_
      refine pN ?_
      refine ret ?_
      refine bR ?_
      refine pR ?_
      refine pR ?_
      refine bR ?_
      refine pR ?_
      refine done rfl (.tmp rfl .nil) (retE ?_)
      refine bX2 ?_
      symm
      rw [Bool.eq_false_iff]
      intro hall
      have h2 := List.all_eq_true.1 hall _ (getD_mem (ks m) i.toNat 0 hil)
      rw [h2] at h1
      simp at h1
    · refine skip ?_
      refine bN ?_
      refine pN ?_
      refine region ?_
      refine cons (opv (Ev.add_i (.t rfl) (.c (v := I 1) rfl) (fun _ => by omega)) ?_)
      refine cons (opv (Ev.move (.t rfl)) ?_)
      refine nil ?_
      refine pN ?_
      refine next (X := Int) (i + 1) ⟨?_, ?_⟩ ?_ (by repeat first | exact Sub.nil | refine Sub.cons rfl ?_) (by repeat first | exact sR | exact sN | apply sC | apply sS | apply sA)
      · try dsimp only
        omega
      · try dsimp only
        rw [take_snoc (ks m) i hi.1 (by omega) 0, List.all_append, hq]
        simpa using h1
      · try dsimp only
        omega
  · try simp only [Bool.and_eq_true, Bool.or_eq_true, Bool.or_eq_false_iff, Bool.and_eq_false_iff, Bool.not_eq_true', Bool.not_eq_false', decide_eq_true_eq, decide_eq_false_iff_not, Decidable.not_not] at hge
    refine exit ?_
    refine pX ?_
    refine pX ?_
    refine bX ?_
    refine pN ?_
    refine seq ?_
    refine region ?_
    refine cons (opv (Ev.assign (.c (v := .bool true) rfl)) ?_)
    refine nil ?_
    refine pN ?_
    refine ret ?_
    refine done rfl (.tmp rfl .nil) (retE ?_)
    refine bX2 ?_
    rw [List.take_of_length_le (by omega)] at hq
    unfold metB
    rw [hq]

theorem en37 : Enters Try.prog 37 := Enters.mk' (by kernel_rfl)

theorem en36 : Enters Try.prog 36 := Enters.mk' (by kernel_rfl)

theorem meetsT_ok (m : SMatch) (n : Int) (h : SHeader) (w : World) (hok : okM m = true) : Calls Try.prog 13 #[eMatch.val m, I n, eHeader.val h] w (RetV w (.bool (metB m n h))) := by
  refine enter0 16 Try.func13 rfl rfl (Nat.le_of_ble_eq_true rfl) ?_
  refine seq ?_
  refine region ?_
  refine cons (box (E := eMatch) (.t rfl) (fun b1 => ?_))
  refine cons (box (E := eHeader) (.t rfl) (fun b2 => ?_))
  refine cons (opv (Ev.assign (.c (v := .bool false) rfl)) ?_)
  refine nil ?_
  refine pN ?_
  refine seq ?_
  refine region ?_
  refine cons (opv (Ev.load (xv := m) ty31 (.t rfl) (ptsVar (by repeat first | exact mH | apply mT | apply mA) (Lens.id _))) ?_)
  refine cons (callv en12 (.cons (.t rfl) .nil) (fun w I => check_ok _ w) ?_)
  refine cons (opv (Ev.eql_i (.t rfl) (.c (v := I 0) rfl)) ?_)
  refine cons (opv (Ev.to (v' := .bool true) (Ev.move (.t rfl)) (congrArg Value.bool (by rw [ckM_zero, hok]))) ?_)
  refine cons (opg rfl rfl (Ev.load (xv := m) ty31 (.t rfl) (ptsVar (by repeat first | exact mH | apply mT | apply mA) (Lens.id _))) ?_)
  refine cons (opgT rfl rfl rfl ?_)
  refine (calln (X := OV × Nat) (fun _ => True) (fun x => x.1.v) (fun x => [OwnS x.1.v (ovE nilFn) (clos m x.2) 97, Var x.2 eMatch m 31]) en37 (.cons (.g rfl id) .nil) (fun w I => compiled_ok m w) (fun x1 _ => ?_))
  refine cons (opg rfl rfl (Ev.move (.t rfl)) ?_)
  refine cons (callg rfl rfl en36 (.cons (.t rfl) (.cons (.g rfl id) (.cons (.t rfl) .nil))) (fun hg w I => meetsL_ok _ m n h x1.2 _ w (isSl_own (by repeat first | exact mH | apply mT | apply mA) w I) (ptsVar (by repeat first | exact mH | apply mT | apply mA) (Lens.id _) w I) (ptsVar (by repeat first | exact mH | apply mT | apply mA) (Lens.id _) w I)) ?_)
  refine cons (opv (Ev.pickA (.t rfl) (fun {_} h => by cases h; rfl) ⟨_, rfl⟩ (by intro h1 h; first | (rw [h] <;> rfl) | (rw [h1, h] <;> rfl) | (rw [h, h1] <;> rfl) | simp_all) (.c (v := .bool false) rfl)) ?_)
  refine cons (opv (Ev.assign (.t rfl)) ?_)
  refine nil ?_
  refine pN ?_
  refine ret ?_
  refine done rfl (.tmp rfl .nil) (retE ?_)
  rfl

theorem meetsF_ok (m : SMatch) (n : Int) (h : SHeader) (w : World) (hok : okM m = false) : Calls Try.prog 13 #[eMatch.val m, I n, eHeader.val h] w (RetV w (.bool false)) := by
  refine enter0 16 Try.func13 rfl rfl (Nat.le_of_ble_eq_true rfl) ?_
  refine seq ?_
  refine region ?_
  refine cons (box (E := eMatch) (.t rfl) (fun b1 => ?_))
  refine cons (box (E := eHeader) (.t rfl) (fun b2 => ?_))
  refine cons (opv (Ev.assign (.c (v := .bool false) rfl)) ?_)
  refine nil ?_
  refine pN ?_
  refine seq ?_
  refine region ?_
  refine cons (opv (Ev.load (xv := m) ty31 (.t rfl) (ptsVar (by repeat first | exact mH | apply mT | apply mA) (Lens.id _))) ?_)
  refine cons (callv en12 (.cons (.t rfl) .nil) (fun w I => check_ok _ w) ?_)
  refine cons (opv (Ev.to (v' := .bool false) (Ev.eql_i (.t rfl) (.c (v := I 0) rfl)) (congrArg Value.bool (by rw [ckM_zero, hok]))) ?_)
  refine cons (opv (Ev.to (v' := .bool false) (Ev.move (.t rfl)) (rfl)) ?_)
  refine cons (opg rfl rfl (Ev.load (xv := m) ty31 (.t rfl) (ptsVar (by repeat first | exact mH | apply mT | apply mA) (Lens.id _))) ?_)
  refine cons (opgF (v := .bool false) rfl rfl rfl ?_)
  refine cons (opg rfl rfl (Ev.move (.t rfl)) ?_)
  refine cons (opgF (v := .bool false) rfl rfl rfl ?_)
  refine cons (opv (Ev.pickA (.t rfl) (fun {_} h => by cases h; rfl) ⟨_, rfl⟩ (by intro h1 h; first | (rw [h] <;> rfl) | (rw [h1, h] <;> rfl) | (rw [h, h1] <;> rfl) | simp_all) (.c (v := .bool false) rfl)) ?_)
  refine cons (opv (Ev.assign (.t rfl)) ?_)
  refine nil ?_
  refine pN ?_
  refine ret ?_
  refine done rfl (.tmp rfl .nil) (retE ?_)
  rfl

theorem meets_ok (m : SMatch) (n : Int) (h : SHeader) (w : World) : Calls Try.prog 13 #[eMatch.val m, I n, eHeader.val h] w (RetV w (.bool (meetsB m n h))) := by
  unfold meetsB
  cases hok : okM m with
  | true => exact meetsT_ok m n h w hok
  | false => exact meetsF_ok m n h w hok
theorem metB_eq (m : SMatch) (n : Int) (h : SHeader) : metB m n h = ((!asksB m 1 || withinB m.in_ n) && (!asksB m 8 || decide (h.proto = m.proto)) && (!asksB m 2 || hasP m.src h.src) && (!asksB m 4 || hasP m.dst h.dst) && (!asksB m 16 || withinB m.srcPort h.srcPort.toNat) && (!asksB m 32 || withinB m.dstPort h.dstPort.toNat)) := by
  unfold metB ks
  simp only [all_ksA, List.all_nil, Bool.true_and]
  rfl

theorem en38 : Enters Try.prog 38 := Enters.mk' (by kernel_rfl)

theorem rmeets_ok (m : SMatch) (n : Int) (h : SHeader) (w : World) : Calls Try.prog 14 #[eMatch.val m, I n, eHeader.val h] w (RetV w (.bool (meetsB m n h))) := by
  refine enter0 79 Try.func14 rfl rfl (Nat.le_of_ble_eq_true rfl) ?_
  refine seq ?_
  refine region ?_
  refine cons (box (E := eMatch) (.t rfl) (fun b1 => ?_))
  refine cons (box (E := eHeader) (.t rfl) (fun b2 => ?_))
  refine cons (opv (Ev.assign (.c (v := .bool false) rfl)) ?_)
  refine nil ?_
  refine pN ?_
  refine seq ?_
  refine seq ?_
  refine region ?_
  refine cons (opv (Ev.load (xv := m) ty31 (.t rfl) (ptsVar (by repeat first | exact mH | apply mT | apply mA) (Lens.id _))) ?_)
  refine cons (callv en11 (.cons (.t rfl) .nil) (fun w I => rcheck_ok _ w) ?_)
  refine cons (opv (Ev.not (.t rfl)) ?_)
  refine nil ?_
  refine pN ?_
  first | refine condD rfl (fun h0 => ?_) (fun h0 => ?_) | refine cond rfl (fun h0 => ?_) (fun h0 => ?_)
  · refine seq ?_
    refine region ?_
    refine cons (opv (Ev.assign (.c (v := .bool false) rfl)) ?_)
    refine nil ?_
    refine pN ?_
    refine ret ?_
    refine pR ?_
    refine done rfl (.tmp rfl .nil) (retE ?_)
    refine bX2 ?_
    unfold meetsB
    have h0c : okM m = false := by simpa using h0
    rw [h0c]; rfl
  · refine skip ?_
    refine pN ?_
    refine seq ?_
    refine seq ?_
    refine region ?_
    refine cons (opv (Ev.load (xv := m) ty31 (.t rfl) (ptsVar (by repeat first | exact mH | apply mT | apply mA) (Lens.id _))) ?_)
    refine cons (callv en31 (.cons (.t rfl) (.cons (.c (v := U8 1) rfl) .nil)) (fun w I => rasks_ok _ _ w (by decide)) ?_)
    refine cons (opv (Ev.move (.t rfl)) ?_)
    refine cons (opg rfl rfl (Ev.fieldAddr (o := 1) (.t rfl) (by kernel_rfl)) ?_)
    refine cons (opg rfl rfl (Ev.load (xv := m.in_) ty24 (.g rfl id) (ptsVar (by repeat first | exact mH | apply mT | apply mA) SMatch.l_in_)) ?_)
    refine cons (opg rfl rfl (Ev.move (.t rfl)) ?_)
    refine cons (callg rfl rfl en38 (.cons (.g rfl id) (.cons (.g rfl id) .nil)) (fun hg w I => rwithin_ok _ _ w) ?_)
    refine cons (opg rfl rfl (Ev.not (.g rfl id)) ?_)
    refine cons (opv (Ev.pickA (.t rfl) (fun {_} h => by cases h; rfl) ⟨_, rfl⟩ (by intro h1 h; first | (rw [h] <;> rfl) | (rw [h1, h] <;> rfl) | (rw [h, h1] <;> rfl) | simp_all) (.c (v := .bool false) rfl)) ?_)
    refine cons (opv (Ev.move (.t rfl)) ?_)
    refine cons (opg rfl rfl (Ev.load (xv := m) ty31 (.t rfl) (ptsVar (by repeat first | exact mH | apply mT | apply mA) (Lens.id _))) ?_)
    refine cons (callg rfl rfl en31 (.cons (.g rfl id) (.cons (.c (v := U8 2) rfl) .nil)) (fun hg w I => rasks_ok _ _ w (by decide)) ?_)
    refine cons (opg rfl rfl (Ev.move (.g rfl id)) ?_)
    refine cons (opg rfl rfl (Ev.fieldAddr (o := 3) (.t rfl) (by kernel_rfl)) ?_)
    refine cons (opg rfl rfl (Ev.load (xv := m.src) ty29 (.g rfl id) (ptsVar (by repeat first | exact mH | apply mT | apply mA) SMatch.l_src)) ?_)
    refine cons (opg rfl rfl (Ev.fieldAddr (o := 0) (.t rfl) (by kernel_rfl)) ?_)
    refine cons (opg rfl rfl (Ev.load (xv := h.src) ty27 (.g rfl id) (ptsVar (by repeat first | exact mH | apply mT | apply mA) SHeader.l_src)) ?_)
    refine cons (callg rfl rfl en39 (.cons (.g rfl id) (.cons (.g rfl id) .nil)) (fun hg w I => rhas_ok _ _ w) ?_)
    refine cons (opg rfl rfl (Ev.not (.g rfl id)) ?_)
    refine cons (opg rfl rfl (Ev.pickA (.g rfl id) (fun {_} h => by cases h; rfl) ⟨_, rfl⟩ (by intro h1 h; first | (rw [h] <;> rfl) | (rw [h1, h] <;> rfl) | (rw [h, h1] <;> rfl) | simp_all) (.c (v := .bool false) rfl)) ?_)
    refine cons (opv (Ev.pickO (.t rfl) (.c (v := .bool true) rfl) (fun {_} h => by cases h; rfl) ⟨_, rfl⟩ (by intro h1 h; first | (rw [h] <;> rfl) | (rw [h1, h] <;> rfl) | (rw [h, h1] <;> rfl) | simp_all)) ?_)
    refine cons (opv (Ev.move (.t rfl)) ?_)
    refine cons (opg rfl rfl (Ev.load (xv := m) ty31 (.t rfl) (ptsVar (by repeat first | exact mH | apply mT | apply mA) (Lens.id _))) ?_)
    refine cons (callg rfl rfl en31 (.cons (.g rfl id) (.cons (.c (v := U8 4) rfl) .nil)) (fun hg w I => rasks_ok _ _ w (by decide)) ?_)
    refine cons (opg rfl rfl (Ev.move (.g rfl id)) ?_)
    refine cons (opg rfl rfl (Ev.fieldAddr (o := 21) (.t rfl) (by kernel_rfl)) ?_)
    refine cons (opg rfl rfl (Ev.load (xv := m.dst) ty29 (.g rfl id) (ptsVar (by repeat first | exact mH | apply mT | apply mA) SMatch.l_dst)) ?_)
    refine cons (opg rfl rfl (Ev.fieldAddr (o := 17) (.t rfl) (by kernel_rfl)) ?_)
    refine cons (opg rfl rfl (Ev.load (xv := h.dst) ty27 (.g rfl id) (ptsVar (by repeat first | exact mH | apply mT | apply mA) SHeader.l_dst)) ?_)
    refine cons (callg rfl rfl en39 (.cons (.g rfl id) (.cons (.g rfl id) .nil)) (fun hg w I => rhas_ok _ _ w) ?_)
    refine cons (opg rfl rfl (Ev.not (.g rfl id)) ?_)
    refine cons (opg rfl rfl (Ev.pickA (.g rfl id) (fun {_} h => by cases h; rfl) ⟨_, rfl⟩ (by intro h1 h; first | (rw [h] <;> rfl) | (rw [h1, h] <;> rfl) | (rw [h, h1] <;> rfl) | simp_all) (.c (v := .bool false) rfl)) ?_)
    refine cons (opv (Ev.pickO (.t rfl) (.c (v := .bool true) rfl) (fun {_} h => by cases h; rfl) ⟨_, rfl⟩ (by intro h1 h; first | (rw [h] <;> rfl) | (rw [h1, h] <;> rfl) | (rw [h, h1] <;> rfl) | simp_all)) ?_)
    refine nil ?_
    refine pN ?_
    first | refine condD rfl (fun h1 => ?_) (fun h1 => ?_) | refine cond rfl (fun h1 => ?_) (fun h1 => ?_)
    · refine seq ?_
      refine region ?_
      refine cons (opv (Ev.assign (.c (v := .bool false) rfl)) ?_)
      refine nil ?_
      refine pN ?_
      refine ret ?_
      refine pR ?_
      refine done rfl (.tmp rfl .nil) (retE ?_)
      refine bX2 ?_
      unfold meetsB
      rw [metB_eq]
      symm
      simp at h1
      simp only [Bool.and_eq_false_iff, Bool.or_eq_false_iff, Bool.not_eq_false']
      rcases h1 with (h1 | h1) | h1 <;> simp [h1]
    · refine skip ?_
      refine pN ?_
      refine seq ?_
      refine region ?_
      refine cons (opv (Ev.load (xv := m) ty31 (.t rfl) (ptsVar (by repeat first | exact mH | apply mT | apply mA) (Lens.id _))) ?_)
      refine cons (callv en31 (.cons (.t rfl) (.cons (.c (v := U8 8) rfl) .nil)) (fun w I => rasks_ok _ _ w (by decide)) ?_)
      refine cons (opv (Ev.move (.t rfl)) ?_)
      refine cons (opg rfl rfl (Ev.fieldAddr (o := 34) (.t rfl) (by kernel_rfl)) ?_)
      refine cons (opg rfl rfl (Ev.load (xv := h.proto) ty5 (.g rfl id) (ptsVar (by repeat first | exact mH | apply mT | apply mA) SHeader.l_proto)) ?_)
      refine cons (opg rfl rfl (Ev.fieldAddr (o := 39) (.t rfl) (by kernel_rfl)) ?_)
      refine cons (opg rfl rfl (Ev.load (xv := m.proto) ty5 (.g rfl id) (ptsVar (by repeat first | exact mH | apply mT | apply mA) SMatch.l_proto)) ?_)
      refine cons (opg rfl rfl (Ev.neq_u8 (.g rfl id) (.g rfl id)) ?_)
      refine cons (opv (Ev.pickA (.t rfl) (fun {_} h => by cases h; rfl) ⟨_, rfl⟩ (by intro h1 h; first | (rw [h] <;> rfl) | (rw [h1, h] <;> rfl) | (rw [h, h1] <;> rfl) | simp_all) (.c (v := .bool false) rfl)) ?_)
      refine cons (opv (Ev.move (.t rfl)) ?_)
      refine cons (opg rfl rfl (Ev.load (xv := m) ty31 (.t rfl) (ptsVar (by repeat first | exact mH | apply mT | apply mA) (Lens.id _))) ?_)
      refine cons (callg rfl rfl en31 (.cons (.g rfl id) (.cons (.c (v := U8 16) rfl) .nil)) (fun hg w I => rasks_ok _ _ w (by decide)) ?_)
      refine cons (opg rfl rfl (Ev.move (.g rfl id)) ?_)
      refine cons (opg rfl rfl (Ev.fieldAddr (o := 40) (.t rfl) (by kernel_rfl)) ?_)
      refine cons (opg rfl rfl (Ev.load (xv := m.srcPort) ty24 (.g rfl id) (ptsVar (by repeat first | exact mH | apply mT | apply mA) SMatch.l_srcPort)) ?_)
      refine cons (opg rfl rfl (Ev.fieldAddr (o := 35) (.t rfl) (by kernel_rfl)) ?_)
      refine cons (opg rfl rfl (Ev.load (xv := h.srcPort) ty22 (.g rfl id) (ptsVar (by repeat first | exact mH | apply mT | apply mA) SHeader.l_srcPort)) ?_)
      refine cons (opg rfl rfl (Ev.conv_u16_i Try.underlying3 Try.underlying22 (.g rfl id)) ?_)
      refine cons (callg rfl rfl en38 (.cons (.g rfl id) (.cons (.g rfl id) .nil)) (fun hg w I => rwithin_ok _ _ w) ?_)
      refine cons (opg rfl rfl (Ev.not (.g rfl id)) ?_)
      refine cons (opg rfl rfl (Ev.pickA (.g rfl id) (fun {_} h => by cases h; rfl) ⟨_, rfl⟩ (by intro h1 h; first | (rw [h] <;> rfl) | (rw [h1, h] <;> rfl) | (rw [h, h1] <;> rfl) | simp_all) (.c (v := .bool false) rfl)) ?_)
      refine cons (opv (Ev.pickO (.t rfl) (.c (v := .bool true) rfl) (fun {_} h => by cases h; rfl) ⟨_, rfl⟩ (by intro h1 h; first | (rw [h] <;> rfl) | (rw [h1, h] <;> rfl) | (rw [h, h1] <;> rfl) | simp_all)) ?_)
      refine cons (opv (Ev.move (.t rfl)) ?_)
      refine cons (opg rfl rfl (Ev.load (xv := m) ty31 (.t rfl) (ptsVar (by repeat first | exact mH | apply mT | apply mA) (Lens.id _))) ?_)
      refine cons (callg rfl rfl en31 (.cons (.g rfl id) (.cons (.c (v := U8 32) rfl) .nil)) (fun hg w I => rasks_ok _ _ w (by decide)) ?_)
      refine cons (opg rfl rfl (Ev.move (.g rfl id)) ?_)
      refine cons (opg rfl rfl (Ev.fieldAddr (o := 42) (.t rfl) (by kernel_rfl)) ?_)
      refine cons (opg rfl rfl (Ev.load (xv := m.dstPort) ty24 (.g rfl id) (ptsVar (by repeat first | exact mH | apply mT | apply mA) SMatch.l_dstPort)) ?_)
      refine cons (opg rfl rfl (Ev.fieldAddr (o := 36) (.t rfl) (by kernel_rfl)) ?_)
      refine cons (opg rfl rfl (Ev.load (xv := h.dstPort) ty22 (.g rfl id) (ptsVar (by repeat first | exact mH | apply mT | apply mA) SHeader.l_dstPort)) ?_)
      refine cons (opg rfl rfl (Ev.conv_u16_i Try.underlying3 Try.underlying22 (.g rfl id)) ?_)
      refine cons (callg rfl rfl en38 (.cons (.g rfl id) (.cons (.g rfl id) .nil)) (fun hg w I => rwithin_ok _ _ w) ?_)
      refine cons (opg rfl rfl (Ev.not (.g rfl id)) ?_)
      refine cons (opg rfl rfl (Ev.pickA (.g rfl id) (fun {_} h => by cases h; rfl) ⟨_, rfl⟩ (by intro h1 h; first | (rw [h] <;> rfl) | (rw [h1, h] <;> rfl) | (rw [h, h1] <;> rfl) | simp_all) (.c (v := .bool false) rfl)) ?_)
      refine cons (opv (Ev.pickO (.t rfl) (.c (v := .bool true) rfl) (fun {_} h => by cases h; rfl) ⟨_, rfl⟩ (by intro h1 h; first | (rw [h] <;> rfl) | (rw [h1, h] <;> rfl) | (rw [h, h1] <;> rfl) | simp_all)) ?_)
      refine cons (opv (Ev.not (.t rfl)) ?_)
      refine cons (opv (Ev.assign (.t rfl)) ?_)
      refine nil ?_
      refine pN ?_
      refine ret ?_
      refine done rfl (.tmp rfl .nil) (retE ?_)
      refine bX2 ?_
      unfold meetsB
      rw [metB_eq]
      simp at h0 h1
      rw [h0]
      obtain ⟨⟨h1, h2⟩, h3⟩ := h1
      cases a1 : asksB m 1 <;> cases a2 : asksB m 2 <;> cases a4 : asksB m 4 <;> simp_all <;> (try simp [Bool.and_assoc]) <;> (try rfl)
end Go.Proofs.Ytkmdhmfgbgngeaa
