/- conf -/
import Derived.Test.YtnoobdijbpmjkaaGreatC33
set_option linter.unusedVariables false
set_option linter.unusedSimpArgs false
namespace Go.Proofs.YtnoobdijbpmjkaaGreat
open Go Go.Gx

theorem en22 : Gx.Enters Tryz.prog 22 := Gx.Enters.mk' (by kernel_rfl)

theorem rexact_ok (a b : SConf) (l k : CL) (w : World) (ha : ConfAt w a l) (hb : ConfAt w b k) : Calls Tryz.prog 17 #[eConf.val a, eConf.val b] w (RetV w (.bool (exactB l k a.default b.default))) := by
  have hla0 := ha.ps.le
  have hlb0 := hb.ps.le
  have hla1 := ha.rs.le
  have hlb1 := hb.rs.le
  have hla2 := ha.us.le
  have hlb2 := hb.us.le
  have hla3 := ha.ms.le
  have hlb3 := hb.ms.le
  have hla4 := ha.xs.le
  have hlb4 := hb.xs.le
  refine enter0 66 Tryz.func17 rfl rfl (Nat.le_of_ble_eq_true rfl) ?_
  refine seq (region (cons (box (E := eConf) (.t rfl) (fun b1 => ?_))))
  refine cons (box (E := eConf) (.t rfl) (fun b2 => ?_))
  refine cons (opv (Ev.assign (.c (v := .bool false) rfl)) ?_)
  refine nil (pN (seq (seq (region (cons (opv (Ev.load (xv := a) ty28 (.t rfl) (ptsVar (by repeat first | exact mH | apply mT | apply mA) (Lens.id _))) ?_))))))
  refine cons (opv (Ev.load (xv := b) ty28 (.t rfl) (ptsVar (by repeat first | exact mH | apply mT | apply mA) (Lens.id _))) ?_)
  refine cons (callv en22 (.cons (.t rfl) (.cons (.t rfl) .nil)) (fun w I => rsame_ok a b l k w (ha.keep0 I.keeps) (hb.keep0 I.keeps)) ?_)
  refine cons (opv (Ev.not (.t rfl)) ?_)
  refine nil (pN ?_)
  first | refine condD rfl (fun h0 => ?_) (fun h0 => ?_) | refine cond rfl (fun h0 => ?_) (fun h0 => ?_)
  · refine seq (region (cons (opv (Ev.assign (.c (v := .bool false) rfl)) ?_)))
    refine nil (pN (ret (pR (done rfl (.tmp rfl .nil) (retE ?_)))))
    have hh : exactB l k a.default b.default = false := by
      rw [Bool.eq_false_iff]
      intro h
      obtain ⟨e1, e2, e3, e4, e5, e6⟩ := of_decide_eq_true h
      have hp := (sameB_perm l k a.default b.default).2 ⟨e1, e2, e3, by rw [e4], by rw [e5], by rw [e6]⟩
      simp [hp] at h0
    rw [hh]; rfl
  · have hsm := (sameB_perm l k a.default b.default).1 (by simpa using h0)
    have hn4 := hsm.2.2.2.1.length_eq
    have hn5 := hsm.2.2.2.2.1.length_eq
    have hn6 := hsm.2.2.2.2.2.length_eq
    refine skip (pN (seq (seq (region (cons (opv (Ev.assign (.c (v := I 0) rfl)) ?_))))))
    refine nil (pN (block (loop (X := Int) (fun x : Int => (0 ≤ x ∧ x ≤ l.rs.length) ∧ (∀ j : Nat, j < x → l.rs.getD j eRoute.zero = k.rs.getD j eRoute.zero)) (fun x : Int => [(2, true, .pointer (some ⟨b1, 0, none⟩)), (3, true, .pointer (some ⟨b2, 0, none⟩)), (5, true, I x)]) (fun x : Int => [Var b2 eConf b 28, Var b1 eConf a 28]) (fun x : Int => (l.rs.length - x).toNat) (0) ⟨?_, ?_⟩ (by repeat first | exact Sub.nil | refine Sub.cons rfl ?_) (by repeat first | exact sR | exact sN | apply sC | apply sS | apply sA) (fun x hx => ?_))))
    · omega
    · intro j h; omega
    obtain ⟨i0, rfl⟩ : ∃ y, y = x := ⟨x, rfl⟩
    obtain ⟨hi0, hq0⟩ : (0 ≤ i0 ∧ i0 ≤ l.rs.length) ∧ (∀ j : Nat, j < i0 → l.rs.getD j eRoute.zero = k.rs.getD j eRoute.zero) := hx
    show Sat _ _ [(2, true, .pointer (some ⟨b1, 0, none⟩)), (3, true, .pointer (some ⟨b2, 0, none⟩)), (5, true, I i0)] [Var b2 eConf b 28, Var b1 eConf a 28]
    refine seq (seq (region (cons (opv (Ev.move (.t rfl)) (cons (opv (Ev.fieldAddr (o := 1) (.t rfl) (by kernel_rfl)) ?_))))))
    refine cons (opv (Ev.load (xv := a.routes) ty23 (.t rfl) (ptsVar (by repeat first | exact mH | apply mT | apply mA) SConf.l_routes)) ?_)
    refine cons (opv (Ev.len Tryz.underlying23 (.t rfl) (fun w I => (ha.keep0 I.keeps).rs)) ?_)
    refine cons (opv (Ev.lss_i (.t rfl) (.t rfl)) ?_)
    refine nil (pN ?_)
    first | refine condD rfl (fun h1 => ?_) (fun h1 => ?_) | refine cond rfl (fun h1 => ?_) (fun h1 => ?_)
    · try simp only [nb] at h1
      refine skip (pN (seq (block (seq (draw' (by kernel_rfl) ?_)))))
      refine tk 0 rfl (Ev.fieldAddr (o := 1) (.t rfl) (by kernel_rfl)) ?_
      refine tk 1 rfl (Ev.load (xv := a.routes) ty23 (.t rfl) (ptsVar (by repeat first | exact mH | apply mT | apply mA) SConf.l_routes)) ?_
      refine tk 2 rfl (Ev.move (.t rfl)) ?_
      refine tk 3 rfl (Ev.indexAddr Tryz.underlying23 ty52 (.t rfl) (.t rfl) (fun w I => (ha.keep0 I.keeps).rs) (fun _ => by omega)) ?_
      refine tk 4 rfl (Ev.loadS0 ty52 (.t rfl) (fun w I => (ha.keep0 I.keeps).rs) (fun _ => by omega)) ?_
      refine tk 5 rfl (Ev.fieldAddr (o := 1) (.t rfl) (by kernel_rfl)) ?_
      refine tk 6 rfl (Ev.load (xv := b.routes) ty23 (.t rfl) (ptsVar (by repeat first | exact mH | apply mT | apply mA) SConf.l_routes)) ?_
      refine tk 7 rfl (Ev.move (.t rfl)) ?_
      refine tk 8 rfl (Ev.indexAddr Tryz.underlying23 ty52 (.t rfl) (.t rfl) (fun w I => (hb.keep0 I.keeps).rs) (fun _ => by omega)) ?_
      refine tk 9 rfl (Ev.loadS0 ty52 (.t rfl) (fun w I => (hb.keep0 I.keeps).rs) (fun _ => by omega)) ?_
      refine tk 10 rfl (Ev.neqS rfl eqok52 rfl (by kernel_rfl) (.t rfl) (.t rfl)) ?_
      refine ovr (pN ?_)
      first | refine condD rfl (fun h2 => ?_) (fun h2 => ?_) | refine cond rfl (fun h2 => ?_) (fun h2 => ?_)
      · refine seq (region (cons (opv (Ev.assign (.c (v := .bool false) rfl)) ?_)))
        refine nil (pN (ret (bR (pR (pR (bR (pR (done rfl (.tmp rfl .nil) (retE ?_)))))))))
        have hh : exactB l k a.default b.default = false := by
          rw [Bool.eq_false_iff]
          intro h
          obtain ⟨e1, e2, e3, e4, e5, e6⟩ := of_decide_eq_true h
          rw [e4] at h2
          simp at h2
        rw [hh]; rfl
      · refine skip (bN (pN (region (cons (opv (Ev.move (.t rfl)) (cons (opv (Ev.add_i (.t rfl) (.c (v := I 1) rfl) (fun _ => by omega)) ?_)))))))
        refine cons (opv (Ev.assign (.t rfl)) (nil (pN (next (X := Int) (i0 + 1) ⟨?_, ?_⟩ ?_ (by repeat first | exact Sub.nil | refine Sub.cons rfl ?_) (by repeat first | exact sR | exact sN | apply sC | apply sS | apply sA)))))
        · try dsimp only
          omega
        · try dsimp only
          intro j h
          by_cases e : (j : Int) < i0
          · exact hq0 j e
          · obtain rfl : j = i0.toNat := by omega
            simpa using h2
        · try dsimp only
          omega
    · try simp only [nb] at h1
      refine exit (pX (pX (bX (pN (seq (seq (region (cons (opv (Ev.assign (.c (v := I 0) rfl)) ?_)))))))))
      refine nil (pN (block (loop (X := Int) (fun x : Int => (0 ≤ x ∧ x ≤ l.ms.length) ∧ (∀ j : Nat, j < x → l.ms.getD j eMeterConf.zero = k.ms.getD j eMeterConf.zero)) (fun x : Int => [(2, true, .pointer (some ⟨b1, 0, none⟩)), (3, true, .pointer (some ⟨b2, 0, none⟩)), (6, true, I x)]) (fun x : Int => [Var b2 eConf b 28, Var b1 eConf a 28]) (fun x : Int => (l.ms.length - x).toNat) (0) ⟨?_, ?_⟩ (by repeat first | exact Sub.nil | refine Sub.cons rfl ?_) (by repeat first | exact sR | exact sN | apply sC | apply sS | apply sA) (fun x hx => ?_))))
      · omega
      · intro j h; omega
      obtain ⟨i1, rfl⟩ : ∃ y, y = x := ⟨x, rfl⟩
      obtain ⟨hi1, hq1⟩ : (0 ≤ i1 ∧ i1 ≤ l.ms.length) ∧ (∀ j : Nat, j < i1 → l.ms.getD j eMeterConf.zero = k.ms.getD j eMeterConf.zero) := hx
      show Sat _ _ [(2, true, .pointer (some ⟨b1, 0, none⟩)), (3, true, .pointer (some ⟨b2, 0, none⟩)), (6, true, I i1)] [Var b2 eConf b 28, Var b1 eConf a 28]
      refine seq (seq (region (cons (opv (Ev.move (.t rfl)) (cons (opv (Ev.fieldAddr (o := 3) (.t rfl) (by kernel_rfl)) ?_))))))
      refine cons (opv (Ev.load (xv := a.meters) ty25 (.t rfl) (ptsVar (by repeat first | exact mH | apply mT | apply mA) SConf.l_meters)) ?_)
      refine cons (opv (Ev.len Tryz.underlying25 (.t rfl) (fun w I => (ha.keep0 I.keeps).ms)) ?_)
      refine cons (opv (Ev.lss_i (.t rfl) (.t rfl)) ?_)
      refine nil (pN ?_)
      first | refine condD rfl (fun h3 => ?_) (fun h3 => ?_) | refine cond rfl (fun h3 => ?_) (fun h3 => ?_)
      · try simp only [nb] at h3
        refine skip (pN (seq (block (seq (draw' (by kernel_rfl) ?_)))))
        refine tk 0 rfl (Ev.fieldAddr (o := 3) (.t rfl) (by kernel_rfl)) ?_
        refine tk 1 rfl (Ev.load (xv := a.meters) ty25 (.t rfl) (ptsVar (by repeat first | exact mH | apply mT | apply mA) SConf.l_meters)) ?_
        refine tk 2 rfl (Ev.move (.t rfl)) ?_
        refine tk 3 rfl (Ev.indexAddr Tryz.underlying25 ty57 (.t rfl) (.t rfl) (fun w I => (ha.keep0 I.keeps).ms) (fun _ => by omega)) ?_
        refine tk 4 rfl (Ev.loadS0 ty57 (.t rfl) (fun w I => (ha.keep0 I.keeps).ms) (fun _ => by omega)) ?_
        refine tk 5 rfl (Ev.fieldAddr (o := 3) (.t rfl) (by kernel_rfl)) ?_
        refine tk 6 rfl (Ev.load (xv := b.meters) ty25 (.t rfl) (ptsVar (by repeat first | exact mH | apply mT | apply mA) SConf.l_meters)) ?_
        refine tk 7 rfl (Ev.move (.t rfl)) ?_
        refine tk 8 rfl (Ev.indexAddr Tryz.underlying25 ty57 (.t rfl) (.t rfl) (fun w I => (hb.keep0 I.keeps).ms) (fun _ => by omega)) ?_
        refine tk 9 rfl (Ev.loadS0 ty57 (.t rfl) (fun w I => (hb.keep0 I.keeps).ms) (fun _ => by omega)) ?_
        refine tk 10 rfl (Ev.neqS rfl eqok57 rfl (by kernel_rfl) (.t rfl) (.t rfl)) ?_
        refine ovr (pN ?_)
        first | refine condD rfl (fun h4 => ?_) (fun h4 => ?_) | refine cond rfl (fun h4 => ?_) (fun h4 => ?_)
        · refine seq (region (cons (opv (Ev.assign (.c (v := .bool false) rfl)) ?_)))
          refine nil (pN (ret (bR (pR (pR (bR (pR (done rfl (.tmp rfl .nil) (retE ?_)))))))))
          have hh : exactB l k a.default b.default = false := by
            rw [Bool.eq_false_iff]
            intro h
            obtain ⟨e1, e2, e3, e4, e5, e6⟩ := of_decide_eq_true h
            rw [e5] at h4
            simp at h4
          rw [hh]; rfl
        · refine skip (bN (pN (region (cons (opv (Ev.move (.t rfl)) (cons (opv (Ev.add_i (.t rfl) (.c (v := I 1) rfl) (fun _ => by omega)) ?_)))))))
          refine cons (opv (Ev.assign (.t rfl)) (nil (pN (next (X := Int) (i1 + 1) ⟨?_, ?_⟩ ?_ (by repeat first | exact Sub.nil | refine Sub.cons rfl ?_) (by repeat first | exact sR | exact sN | apply sC | apply sS | apply sA)))))
          · try dsimp only
            omega
          · try dsimp only
            intro j h
            by_cases e : (j : Int) < i1
            · exact hq1 j e
            · obtain rfl : j = i1.toNat := by omega
              simpa using h4
          · try dsimp only
            omega
      · try simp only [nb] at h3
        refine exit (pX (pX (bX (pN (seq (seq (region (cons (opv (Ev.assign (.c (v := I 0) rfl)) ?_)))))))))
        refine nil (pN (block (loop (X := Int) (fun x : Int => (0 ≤ x ∧ x ≤ l.xs.length) ∧ (∀ j : Nat, j < x → l.xs.getD j eMirrorConf.zero = k.xs.getD j eMirrorConf.zero)) (fun x : Int => [(2, true, .pointer (some ⟨b1, 0, none⟩)), (3, true, .pointer (some ⟨b2, 0, none⟩)), (7, true, I x)]) (fun x : Int => [Var b2 eConf b 28, Var b1 eConf a 28]) (fun x : Int => (l.xs.length - x).toNat) (0) ⟨?_, ?_⟩ (by repeat first | exact Sub.nil | refine Sub.cons rfl ?_) (by repeat first | exact sR | exact sN | apply sC | apply sS | apply sA) (fun x hx => ?_))))
        · omega
        · intro j h; omega
        obtain ⟨i2, rfl⟩ : ∃ y, y = x := ⟨x, rfl⟩
        obtain ⟨hi2, hq2⟩ : (0 ≤ i2 ∧ i2 ≤ l.xs.length) ∧ (∀ j : Nat, j < i2 → l.xs.getD j eMirrorConf.zero = k.xs.getD j eMirrorConf.zero) := hx
        show Sat _ _ [(2, true, .pointer (some ⟨b1, 0, none⟩)), (3, true, .pointer (some ⟨b2, 0, none⟩)), (7, true, I i2)] [Var b2 eConf b 28, Var b1 eConf a 28]
        refine seq (seq (region (cons (opv (Ev.move (.t rfl)) (cons (opv (Ev.fieldAddr (o := 4) (.t rfl) (by kernel_rfl)) ?_))))))
        refine cons (opv (Ev.load (xv := a.mirrors) ty26 (.t rfl) (ptsVar (by repeat first | exact mH | apply mT | apply mA) SConf.l_mirrors)) ?_)
        refine cons (opv (Ev.len Tryz.underlying26 (.t rfl) (fun w I => (ha.keep0 I.keeps).xs)) ?_)
        refine cons (opv (Ev.lss_i (.t rfl) (.t rfl)) ?_)
        refine nil (pN ?_)
        first | refine condD rfl (fun h5 => ?_) (fun h5 => ?_) | refine cond rfl (fun h5 => ?_) (fun h5 => ?_)
        · try simp only [nb] at h5
          refine skip (pN (seq (block (seq (draw' (by kernel_rfl) ?_)))))
          refine tk 0 rfl (Ev.fieldAddr (o := 4) (.t rfl) (by kernel_rfl)) ?_
          refine tk 1 rfl (Ev.load (xv := a.mirrors) ty26 (.t rfl) (ptsVar (by repeat first | exact mH | apply mT | apply mA) SConf.l_mirrors)) ?_
          refine tk 2 rfl (Ev.move (.t rfl)) ?_
          refine tk 3 rfl (Ev.indexAddr Tryz.underlying26 ty59 (.t rfl) (.t rfl) (fun w I => (ha.keep0 I.keeps).xs) (fun _ => by omega)) ?_
          refine tk 4 rfl (Ev.loadS0 ty59 (.t rfl) (fun w I => (ha.keep0 I.keeps).xs) (fun _ => by omega)) ?_
          refine tk 5 rfl (Ev.fieldAddr (o := 4) (.t rfl) (by kernel_rfl)) ?_
          refine tk 6 rfl (Ev.load (xv := b.mirrors) ty26 (.t rfl) (ptsVar (by repeat first | exact mH | apply mT | apply mA) SConf.l_mirrors)) ?_
          refine tk 7 rfl (Ev.move (.t rfl)) ?_
          refine tk 8 rfl (Ev.indexAddr Tryz.underlying26 ty59 (.t rfl) (.t rfl) (fun w I => (hb.keep0 I.keeps).xs) (fun _ => by omega)) ?_
          refine tk 9 rfl (Ev.loadS0 ty59 (.t rfl) (fun w I => (hb.keep0 I.keeps).xs) (fun _ => by omega)) ?_
          refine tk 10 rfl (Ev.neqS rfl eqok59 rfl (by kernel_rfl) (.t rfl) (.t rfl)) ?_
          refine ovr (pN ?_)
          first | refine condD rfl (fun h6 => ?_) (fun h6 => ?_) | refine cond rfl (fun h6 => ?_) (fun h6 => ?_)
          · refine seq (region (cons (opv (Ev.assign (.c (v := .bool false) rfl)) ?_)))
            refine nil (pN (ret (bR (pR (pR (bR (pR (done rfl (.tmp rfl .nil) (retE ?_)))))))))
            have hh : exactB l k a.default b.default = false := by
              rw [Bool.eq_false_iff]
              intro h
              obtain ⟨e1, e2, e3, e4, e5, e6⟩ := of_decide_eq_true h
              rw [e6] at h6
              simp at h6
            rw [hh]; rfl
          · refine skip (bN (pN (region (cons (opv (Ev.move (.t rfl)) (cons (opv (Ev.add_i (.t rfl) (.c (v := I 1) rfl) (fun _ => by omega)) ?_)))))))
            refine cons (opv (Ev.assign (.t rfl)) (nil (pN (next (X := Int) (i2 + 1) ⟨?_, ?_⟩ ?_ (by repeat first | exact Sub.nil | refine Sub.cons rfl ?_) (by repeat first | exact sR | exact sN | apply sC | apply sS | apply sA)))))
            · try dsimp only
              omega
            · try dsimp only
              intro j h
              by_cases e : (j : Int) < i2
              · exact hq2 j e
              · obtain rfl : j = i2.toNat := by omega
                simpa using h6
            · try dsimp only
              omega
        · try simp only [nb] at h5
          refine exit (pX (pX (bX (pN (seq (region (cons (opv (Ev.assign (.c (v := .bool true) rfl)) ?_))))))))
          refine nil (pN (ret (done rfl (.tmp rfl .nil) (retE ?_))))
          have hh : exactB l k a.default b.default = true := decide_eq_true ⟨hsm.1, hsm.2.1, hsm.2.2.1, eq_getD eRoute.zero (by omega) (fun j hj => hq0 j (by omega)), eq_getD eMeterConf.zero (by omega) (fun j hj => hq1 j (by omega)), eq_getD eMirrorConf.zero (by omega) (fun j hj => hq2 j (by omega))⟩
          rw [hh]; rfl

theorem CL.Small.n {l : CL} (h : l.Small) : l.n ≤ 4611686018427387904 := by
  obtain ⟨h1, h2, h3, h4, h5⟩ := h
  unfold CL.n
  omega
theorem takeC_small (l : CL) {n : Nat} (h : n ≤ 2000) : (takeC l n).Small := by
  obtain ⟨h1, h2, h3, h4, h5⟩ := takeC_len l n
  exact ⟨by omega, by omega, by omega, by omega, by omega⟩
theorem takeC_names {l : CL} (h : l.Names) (n : Nat) : (takeC l n).Names := ⟨fun x hx => h.us x (List.mem_of_mem_take hx), fun x hx => h.ms x (List.mem_of_mem_take hx), fun x hx => h.xs x (List.mem_of_mem_take hx)⟩
theorem marked_own {K : Ctx} {L : List Res} {x : CB} {l : CL} {d : Int} (hs : ∀ r ∈ x.R (markL l), r ∈ L) (w : World) (I : WInv K L w) : ConfAt w ((subC x l).c d) l := (confAt_own (d := d) hs w I).sub

theorem en10 : Gx.Enters Tryz.prog 10 := Gx.Enters.mk' (by kernel_rfl)

theorem en11 : Gx.Enters Tryz.prog 11 := Gx.Enters.mk' (by kernel_rfl)

theorem en13 : Gx.Enters Tryz.prog 13 := Gx.Enters.mk' (by kernel_rfl)

theorem en14 : Gx.Enters Tryz.prog 14 := Gx.Enters.mk' (by kernel_rfl)

theorem en17 : Gx.Enters Tryz.prog 17 := Gx.Enters.mk' (by kernel_rfl)

theorem en18 : Gx.Enters Tryz.prog 18 := Gx.Enters.mk' (by kernel_rfl)

theorem en19 : Gx.Enters Tryz.prog 19 := Gx.Enters.mk' (by kernel_rfl)

theorem en20 : Gx.Enters Tryz.prog 20 := Gx.Enters.mk' (by kernel_rfl)

theorem ConfChecks_walk (c : SConf) (l : CL) (w : World) (hc : ConfAt w c l) (hn : l.Names) : Calls Tryz.prog 3 #[eConf.val c] w (RetV w (.bool true)) := by
  have hsm := takeC_small l (n := 1100) (by decide)
  have hfl := checkF_len (takeC l 1100) c.default
  have hmay : decide (¬ mayB (takeC l 1100) c.default = decide (((checkF (takeC l 1100) c.default).length : Int) = 0)) = false := by
    unfold mayB
    cases (checkF (takeC l 1100) c.default) <;> simp
    omega
  refine enter0 85 Tryz.func3 rfl rfl (Nat.le_of_ble_eq_true rfl) ?_
  refine seq (region (cons (box (E := eConf) (.t rfl) (fun b1 => ?_))))
  refine cons (opv (Ev.assign (.c (v := .bool false) rfl)) ?_)
  refine nil (pN (seq (region (cons (opv (Ev.ldv ty28 (.t rfl) (Lens.id _)) ?_)))))
  refine cons (calln (X := CB) (fun _ => True) (fun x => eConf.val ((subC x (takeC l 1100)).c c.default)) (fun x => x.R (markL (takeC l 1100))) en10 (.cons (.t rfl) (.cons (.c (v := I 1100) rfl) .nil)) (fun w I => cut_ok c l 1100 w (hc.keep0 I.keeps) (by decide)) (fun x0 _ => ?_))
  refine cons (alloc z28 (fun b2 => ?_))
  refine cons (stv ty28 (Lens.id _) (.t rfl) (.t rfl) ?_)
  refine nil (pN (seq (region (cons (opv (Ev.to (v' := eConf.val ((subC x0 (takeC l 1100)).c c.default)) (Ev.ldv ty28 (.t rfl) (Lens.id _)) (rfl)) ?_)))))
  refine cons (calln (X := CB) (fun _ => True) (fun x => eConf.val (x.c c.default)) (fun x => x.R (takeC l 1100)) en11 (.cons (.t rfl) .nil) (fun w I => rcopy_ok ((subC x0 (takeC l 1100)).c c.default) (takeC l 1100) w (marked_own (x := x0) (l := (takeC l 1100)) (fun r hr => by simp only [CB.R, List.mem_cons, List.not_mem_nil, or_false] at hr; rcases hr with rfl | rfl | rfl | rfl | rfl <;> repeat first | exact mH | apply mT | apply mA) w I) hsm) (fun x1 _ => ?_))
  refine cons (alloc z28 (fun b3 => ?_))
  refine cons (stv ty28 (Lens.id _) (.t rfl) (.t rfl) ?_)
  refine nil (pN (seq (draw' (by kernel_rfl) ?_)))
  refine tk 0 rfl (Ev.to (v' := eConf.val ((subC x0 (takeC l 1100)).c c.default)) (Ev.ldv ty28 (.t rfl) (Lens.id _)) (rfl)) ?_
  refine tk 2 rfl (Ev.to (v' := eConf.val ((subC x0 (takeC l 1100)).c c.default)) (Ev.ldv ty28 (.t rfl) (Lens.id _)) (rfl)) ?_
  refine al1 1 rfl ((callo (xs := checkF (takeC l 1100) c.default) en12 (.cons (.t rfl) .nil) (fun w I => conf_check ((subC x0 (takeC l 1100)).c c.default) (takeC l 1100) w (marked_own (x := x0) (l := (takeC l 1100)) (fun r hr => by simp only [CB.R, List.mem_cons, List.not_mem_nil, or_false] at hr; rcases hr with rfl | rfl | rfl | rfl | rfl <;> repeat first | exact mH | apply mT | apply mA) w I) (takeC_names hn 1100) hsm.n) (fun f1 => ?_)))
  refine hdn (al1 3 rfl ((callo (xs := checkF (takeC l 1100) c.default) en12 (.cons (.t rfl) .nil) (fun w I => conf_check ((subC x0 (takeC l 1100)).c c.default) (takeC l 1100) w (marked_own (x := x0) (l := (takeC l 1100)) (fun r hr => by simp only [CB.R, List.mem_cons, List.not_mem_nil, or_false] at hr; rcases hr with rfl | rfl | rfl | rfl | rfl <;> repeat first | exact mH | apply mT | apply mA) w I) (takeC_names hn 1100) hsm.n) (fun f2 => ?_))))
  refine hdn (tk 4 rfl (Ev.assign (.t rfl)) ?_)
  refine tk 5 rfl (Ev.assign (.t rfl)) ?_
  refine ovr (pN (seq (region (cons (opv (Ev.to (v' := eConf.val (x1.c c.default)) (Ev.ldv ty28 (.t rfl) (Lens.id _)) (rfl)) ?_)))))
  refine cons (callo (xs := checkF (takeC l 1100) c.default) en13 (.cons (.t rfl) .nil) (fun w I => rcheck_conf (x1.c c.default) (takeC l 1100) w (confAt_own (x := x1) (l := (takeC l 1100)) (fun r hr => by simp only [CB.R, List.mem_cons, List.not_mem_nil, or_false] at hr; rcases hr with rfl | rfl | rfl | rfl | rfl <;> repeat first | exact mH | apply mT | apply mA) w I) (takeC_names hn 1100) hsm.n) (fun f3 => ?_))
  refine cons (opv (Ev.assign (.t rfl)) (nil (pN (seq (seq (region (cons (opv (Ev.move (.t rfl)) (cons (opv (Ev.move (.t rfl)) (cons (callv en14 (.cons (.t rfl) (.cons (.t rfl) .nil)) (fun w I => sameFaults_ok _ _ _ _ w (by first | exact isSl_own (by repeat first | exact mH | apply mT | apply mA) w I | exact IsSl.keep0 (by assumption) I.keeps) (by first | exact isSl_own (by repeat first | exact mH | apply mT | apply mA) w I | exact IsSl.keep0 (by assumption) I.keeps)) ?_))))))))))))
  refine cons (opv (Ev.to (v' := .bool false) (Ev.not (.t rfl)) (congrArg Value.bool (by simp))) ?_)
  refine cons (opv (Ev.move (.t rfl)) (cons (opg rfl rfl (Ev.move (.t rfl)) ?_)))
  refine cons (opg rfl rfl (Ev.move (.t rfl)) ?_)
  refine cons (callg rfl rfl en14 (.cons (.g rfl id) (.cons (.g rfl id) .nil)) (fun hg w I => sameFaults_ok _ _ _ _ w (by first | exact isSl_own (by repeat first | exact mH | apply mT | apply mA) w I | exact IsSl.keep0 (by assumption) I.keeps) (by first | exact isSl_own (by repeat first | exact mH | apply mT | apply mA) w I | exact IsSl.keep0 (by assumption) I.keeps)) ?_)
  refine cons (opg rfl rfl (Ev.to (v' := .bool false) (Ev.not (.g rfl id)) (congrArg Value.bool (by simp))) ?_)
  refine cons (opv (Ev.to (v' := .bool false) (Ev.pickO (.t rfl) (.c (v := .bool true) rfl) (fun {_} h => by cases h; rfl) ⟨_, rfl⟩ (by intro h1 h; first | (rw [h] <;> rfl) | (rw [h1, h] <;> rfl) | (rw [h, h1] <;> rfl) | simp_all)) (rfl)) ?_)
  refine cons (opv (Ev.move (.t rfl)) (cons (opg rfl rfl (Ev.to (v' := eConf.val ((subC x0 (takeC l 1100)).c c.default)) (Ev.ldv ty28 (.t rfl) (Lens.id _)) (rfl)) ?_)))
  refine cons (callg rfl rfl en15 (.cons (.g rfl id) .nil) (fun hg w I => may_ok ((subC x0 (takeC l 1100)).c c.default) (takeC l 1100) w (marked_own (x := x0) (l := (takeC l 1100)) (fun r hr => by simp only [CB.R, List.mem_cons, List.not_mem_nil, or_false] at hr; rcases hr with rfl | rfl | rfl | rfl | rfl <;> repeat first | exact mH | apply mT | apply mA) w I) (takeC_names hn 1100) hsm.n) ?_)
  refine cons (opg rfl rfl (Ev.move (.t rfl)) ?_)
  refine cons (opg rfl rfl (Ev.len Tryz.underlying31 (.g rfl id) (by first | exact isSl_own (by repeat first | exact mH | apply mT | apply mA) | exact fun w I => IsSl.keep0 (by assumption) I.keeps)) ?_)
  refine cons (opg rfl rfl (Ev.eql_i (.g rfl id) (.c (v := I 0) rfl)) ?_)
  refine cons (opg rfl rfl (Ev.to (v' := .bool false) (Ev.neq_b Tryz.underlying4 (.g rfl id) (.g rfl id)) (congrArg Value.bool hmay)) ?_)
  refine cons (opv (Ev.to (v' := .bool false) (Ev.pickO (.t rfl) (.c (v := .bool true) rfl) (fun {_} h => by cases h; rfl) ⟨_, rfl⟩ (by intro h1 h; first | (rw [h] <;> rfl) | (rw [h1, h] <;> rfl) | (rw [h, h1] <;> rfl) | simp_all)) (rfl)) ?_)
  refine nil (pN (condF rfl (rfl) ?_))
  refine skip (pN (seq (seq (arr (L' := [OwnS f1.v eFault (checkF (takeC l 1100) c.default) 37, OwnS f2.v eFault (checkF (takeC l 1100) c.default) 37, OwnS f3.v eFault (checkF (takeC l 1100) c.default) 37, Var b3 eConf (x1.c c.default) 28, OwnS x1.o1.v iE (takeC l 1100).ps 3, OwnS x1.o2.v eRoute (takeC l 1100).rs 52, OwnS x1.o3.v eRule (takeC l 1100).us 76, OwnS x1.o4.v eMeterConf (takeC l 1100).ms 57, OwnS x1.o5.v eMirrorConf (takeC l 1100).xs 59, Var b2 eConf ((subC x0 (takeC l 1100)).c c.default) 28, OwnS x0.o1.v iE (markL (takeC l 1100)).ps 3, OwnS x0.o2.v eRoute (markL (takeC l 1100)).rs 52, OwnS x0.o3.v eRule (markL (takeC l 1100)).us 76, OwnS x0.o4.v eMeterConf (markL (takeC l 1100)).ms 57, OwnS x0.o5.v eMirrorConf (markL (takeC l 1100)).xs 59]) (by repeat first | exact SubP.nil | refine SubP.cons (by repeat first | exact Rem.head | apply Rem.tail) ?_) ?_))))
  refine region (cons (opv (Ev.assign (.c (v := I 0) rfl)) ?_))
  refine nil (pN (block (loop (X := Int × (List SFault)) (fun x : Int × (List SFault) => (0 ≤ x.1 ∧ x.1 ≤ (checkF (takeC l 1100) c.default).length) ∧ (x.2.length = (checkF (takeC l 1100) c.default).length)) (fun x : Int × (List SFault) => [(3, true, .pointer (some ⟨b2, 0, none⟩)), (4, true, .pointer (some ⟨b3, 0, none⟩)), (5, true, f1.v), (6, true, f2.v), (7, true, f3.v), (8, true, I x.1)]) (fun x : Int × (List SFault) => [OwnS f1.v eFault x.2 37, OwnS f2.v eFault (checkF (takeC l 1100) c.default) 37, OwnS f3.v eFault (checkF (takeC l 1100) c.default) 37, Var b3 eConf (x1.c c.default) 28, OwnS x1.o1.v iE (takeC l 1100).ps 3, OwnS x1.o2.v eRoute (takeC l 1100).rs 52, OwnS x1.o3.v eRule (takeC l 1100).us 76, OwnS x1.o4.v eMeterConf (takeC l 1100).ms 57, OwnS x1.o5.v eMirrorConf (takeC l 1100).xs 59, Var b2 eConf ((subC x0 (takeC l 1100)).c c.default) 28, OwnS x0.o1.v iE (markL (takeC l 1100)).ps 3, OwnS x0.o2.v eRoute (markL (takeC l 1100)).rs 52, OwnS x0.o3.v eRule (markL (takeC l 1100)).us 76, OwnS x0.o4.v eMeterConf (markL (takeC l 1100)).ms 57, OwnS x0.o5.v eMirrorConf (markL (takeC l 1100)).xs 59]) (fun x : Int × (List SFault) => ((checkF (takeC l 1100) c.default).length - x.1).toNat) (0, (checkF (takeC l 1100) c.default)) ⟨?_, ?_⟩ (by repeat first | exact Sub.nil | refine Sub.cons rfl ?_) (by repeat first | exact sR | exact sN | apply sC | apply sS | apply sA) (fun x hx => ?_))))
  · omega
  · rfl
  obtain ⟨i, ys⟩ := x
  obtain ⟨hi, hy⟩ : (0 ≤ i ∧ i ≤ (checkF (takeC l 1100) c.default).length) ∧ (ys.length = (checkF (takeC l 1100) c.default).length) := hx
  show Sat _ _ [(3, true, .pointer (some ⟨b2, 0, none⟩)), (4, true, .pointer (some ⟨b3, 0, none⟩)), (5, true, f1.v), (6, true, f2.v), (7, true, f3.v), (8, true, I i)] [OwnS f1.v eFault ys 37, OwnS f2.v eFault (checkF (takeC l 1100) c.default) 37, OwnS f3.v eFault (checkF (takeC l 1100) c.default) 37, Var b3 eConf (x1.c c.default) 28, OwnS x1.o1.v iE (takeC l 1100).ps 3, OwnS x1.o2.v eRoute (takeC l 1100).rs 52, OwnS x1.o3.v eRule (takeC l 1100).us 76, OwnS x1.o4.v eMeterConf (takeC l 1100).ms 57, OwnS x1.o5.v eMirrorConf (takeC l 1100).xs 59, Var b2 eConf ((subC x0 (takeC l 1100)).c c.default) 28, OwnS x0.o1.v iE (markL (takeC l 1100)).ps 3, OwnS x0.o2.v eRoute (markL (takeC l 1100)).rs 52, OwnS x0.o3.v eRule (markL (takeC l 1100)).us 76, OwnS x0.o4.v eMeterConf (markL (takeC l 1100)).ms 57, OwnS x0.o5.v eMirrorConf (markL (takeC l 1100)).xs 59]
  refine seq (seq (region (cons (opv (Ev.move (.t rfl)) (cons (opv (Ev.move (.t rfl)) (cons (opv (Ev.len Tryz.underlying31 (.t rfl) (by first | exact isSl_own (by repeat first | exact mH | apply mT | apply mA) | exact fun w I => IsSl.keep0 (by assumption) I.keeps)) ?_))))))))
  refine cons (opv (Ev.lss_i (.t rfl) (.t rfl)) ?_)
  refine nil (pN ?_)
  first | refine condD rfl (fun h1 => ?_) (fun h1 => ?_) | refine cond rfl (fun h1 => ?_) (fun h1 => ?_)
  · try simp only [nb] at h1
    refine skip (pN (seq (block (region (cons (opv (Ev.move (.t rfl)) (cons (opv (Ev.move (.t rfl)) (cons (opv (Ev.buildS (fs := _) (places := [(0, 1), (1, 1)]) z37 rfl Tryz.underlying37 (by kernel_rfl) (.cons (.c (v := I (-9)) rfl) .nil) (Fills.cons SFault.l_at_ rfl Fills.nil)) ?_))))))))))
    refine cons (opv (Ev.indexAddr Tryz.underlying31 ty37 (.t rfl) (.t rfl) (by first | exact isSl_own (by repeat first | exact mH | apply mT | apply mA) | exact fun w I => IsSl.keep0 (by assumption) I.keeps) (fun _ => by omega)) ?_)
    refine cons (storeS0 ty37 (.t rfl) (.t rfl) (by repeat first | exact Upd.head | apply Upd.tail | apply Upd.right) (by omega) ?_)
    refine nil (bN (pN (region (cons (opv (Ev.move (.t rfl)) (cons (opv (Ev.add_i (.t rfl) (.c (v := I 1) rfl) (fun _ => by omega)) ?_)))))))
    refine cons (opv (Ev.assign (.t rfl)) (nil (pN (nextP (X := Int × (List SFault)) (i + 1, _) ⟨?_, ?_⟩ ?_ (by repeat first | exact Sub.nil | refine Sub.cons rfl ?_) (by repeat first | exact SubP.nil | refine SubP.cons (by repeat first | exact Rem.head | apply Rem.tail) ?_)))))
    · try dsimp only
      omega
    · try dsimp only
      rw [List.length_set]; exact hy
    · try dsimp only
      omega
  · try simp only [nb] at h1
    refine exit (pX (pX (bX (pN (cut (X := CB × CB × Nat × Nat) (fun x : CB × CB × Nat × Nat => True) (fun x : CB × CB × Nat × Nat => [(3, true, .pointer (some ⟨b2, 0, none⟩)), (4, true, .pointer (some ⟨b3, 0, none⟩)), (6, true, f2.v), (7, true, f3.v), (9, true, .pointer (some ⟨x.2.2.1, 0, none⟩)), (10, true, .pointer (some ⟨x.2.2.2, 0, none⟩))]) (fun x : CB × CB × Nat × Nat => [Var x.2.2.1 eConf (x.1.c c.default) 28, Var x.2.2.2 eConf (x.2.1.c c.default) 28, OwnS x.1.o1.v iE (takeC l 1100).ps 3, OwnS x.1.o2.v eRoute (takeC l 1100).rs 52, OwnS x.1.o3.v eRule (takeC l 1100).us 76, OwnS x.1.o4.v eMeterConf (takeC l 1100).ms 57, OwnS x.1.o5.v eMirrorConf (takeC l 1100).xs 59, OwnS x.2.1.o1.v iE (takeC l 1100).ps 3, OwnS x.2.1.o2.v eRoute (takeC l 1100).rs 52, OwnS x.2.1.o3.v eRule (takeC l 1100).us 76, OwnS x.2.1.o4.v eMeterConf (takeC l 1100).ms 57, OwnS x.2.1.o5.v eMirrorConf (takeC l 1100).xs 59, OwnS f2.v eFault (checkF (takeC l 1100) c.default) 37, OwnS f3.v eFault (checkF (takeC l 1100) c.default) 37, Var b3 eConf (x1.c c.default) 28, OwnS x1.o1.v iE (takeC l 1100).ps 3, OwnS x1.o2.v eRoute (takeC l 1100).rs 52, OwnS x1.o3.v eRule (takeC l 1100).us 76, OwnS x1.o4.v eMeterConf (takeC l 1100).ms 57, OwnS x1.o5.v eMirrorConf (takeC l 1100).xs 59, Var b2 eConf ((subC x0 (takeC l 1100)).c c.default) 28, OwnS x0.o1.v iE (markL (takeC l 1100)).ps 3, OwnS x0.o2.v eRoute (markL (takeC l 1100)).rs 52, OwnS x0.o3.v eRule (markL (takeC l 1100)).us 76, OwnS x0.o4.v eMeterConf (markL (takeC l 1100)).ms 57, OwnS x0.o5.v eMirrorConf (markL (takeC l 1100)).xs 59]) ?_ (fun x hx => ?_))))))
    · refine draw' (by kernel_rfl) ?_
      refine tk 0 rfl (Ev.to (v' := eConf.val ((subC x0 (takeC l 1100)).c c.default)) (Ev.ldv ty28 (.t rfl) (Lens.id _)) (rfl)) ?_
      refine tk 2 rfl (Ev.to (v' := eConf.val ((subC x0 (takeC l 1100)).c c.default)) (Ev.ldv ty28 (.t rfl) (Lens.id _)) (rfl)) ?_
      refine all [1, 4, 5] (by kernel_rfl) (by decide) (.cons rfl ?_ (.cons rfl ?_ (.cons rfl ?_ .nil)))
      · refine (calln (X := CB) (fun _ => True) (fun x => eConf.val (x.c c.default)) (fun x => x.R (takeC l 1100)) en16 (.cons (.t rfl) .nil) (fun w I => copy_ok ((subC x0 (takeC l 1100)).c c.default) (takeC l 1100) w (marked_own (x := x0) (l := (takeC l 1100)) (fun r hr => by simp only [CB.R, List.mem_cons, List.not_mem_nil, or_false] at hr; rcases hr with rfl | rfl | rfl | rfl | rfl <;> repeat first | exact mH | apply mT | apply mA) w I) hsm) (fun x2 _ => ?_))
        refine hdn (all [3, 4, 5] (by kernel_rfl) (by decide) (.cons rfl ?_ (.cons rfl ?_ (.cons rfl ?_ .nil))))
        · refine (calln (X := CB) (fun _ => True) (fun x => eConf.val (x.c c.default)) (fun x => x.R (takeC l 1100)) en16 (.cons (.t rfl) .nil) (fun w I => copy_ok ((subC x0 (takeC l 1100)).c c.default) (takeC l 1100) w (marked_own (x := x0) (l := (takeC l 1100)) (fun r hr => by simp only [CB.R, List.mem_cons, List.not_mem_nil, or_false] at hr; rcases hr with rfl | rfl | rfl | rfl | rfl <;> repeat first | exact mH | apply mT | apply mA) w I) hsm) (fun x3 _ => ?_))
          refine hdn (all [4, 5] (by kernel_rfl) (by decide) (.cons rfl ?_ (.cons rfl ?_ .nil)))
          · refine (alloc z28 (fun b4 => ?_))
            refine hdn (al1 5 rfl ((alloc z28 (fun b5 => ?_))))
            refine hdn (al1 6 rfl ((stv ty28 (Lens.id _) (.t rfl) (.t rfl) ?_)))
            refine hdn (al1 7 rfl ((stv ty28 (Lens.id _) (.t rfl) (.t rfl) ?_)))
            refine hdn (ovr (pN (meetP (X := CB × CB × Nat × Nat) (_, _, _, _) trivial (by repeat first | exact Sub.nil | refine Sub.cons rfl ?_) (by repeat first | exact SubP.nil | refine SubP.cons (by repeat first | exact Rem.head | apply Rem.tail) ?_))))
          · refine (alloc z28 (fun b6 => ?_))
            refine hdn (al1 4 rfl ((alloc z28 (fun b7 => ?_))))
            refine hdn (al1 6 rfl ((stv ty28 (Lens.id _) (.t rfl) (.t rfl) ?_)))
            refine hdn (al1 7 rfl ((stv ty28 (Lens.id _) (.t rfl) (.t rfl) ?_)))
            refine hdn (ovr (pN (meetP (X := CB × CB × Nat × Nat) (_, _, _, _) trivial (by repeat first | exact Sub.nil | refine Sub.cons rfl ?_) (by repeat first | exact SubP.nil | refine SubP.cons (by repeat first | exact Rem.head | apply Rem.tail) ?_))))
        · refine (alloc z28 (fun b8 => ?_))
          refine hdn (all [3, 5] (by kernel_rfl) (by decide) (.cons rfl ?_ (.cons rfl ?_ .nil)))
          · refine (calln (X := CB) (fun _ => True) (fun x => eConf.val (x.c c.default)) (fun x => x.R (takeC l 1100)) en16 (.cons (.t rfl) .nil) (fun w I => copy_ok ((subC x0 (takeC l 1100)).c c.default) (takeC l 1100) w (marked_own (x := x0) (l := (takeC l 1100)) (fun r hr => by simp only [CB.R, List.mem_cons, List.not_mem_nil, or_false] at hr; rcases hr with rfl | rfl | rfl | rfl | rfl <;> repeat first | exact mH | apply mT | apply mA) w I) hsm) (fun x3 _ => ?_))
            refine hdn (al1 5 rfl ((alloc z28 (fun b9 => ?_))))
            refine hdn (al1 6 rfl ((stv ty28 (Lens.id _) (.t rfl) (.t rfl) ?_)))
            refine hdn (al1 7 rfl ((stv ty28 (Lens.id _) (.t rfl) (.t rfl) ?_)))
            refine hdn (ovr (pN (meetP (X := CB × CB × Nat × Nat) (_, _, _, _) trivial (by repeat first | exact Sub.nil | refine Sub.cons rfl ?_) (by repeat first | exact SubP.nil | refine SubP.cons (by repeat first | exact Rem.head | apply Rem.tail) ?_))))
          · refine (alloc z28 (fun b10 => ?_))
            refine hdn (al1 3 rfl ((calln (X := CB) (fun _ => True) (fun x => eConf.val (x.c c.default)) (fun x => x.R (takeC l 1100)) en16 (.cons (.t rfl) .nil) (fun w I => copy_ok ((subC x0 (takeC l 1100)).c c.default) (takeC l 1100) w (marked_own (x := x0) (l := (takeC l 1100)) (fun r hr => by simp only [CB.R, List.mem_cons, List.not_mem_nil, or_false] at hr; rcases hr with rfl | rfl | rfl | rfl | rfl <;> repeat first | exact mH | apply mT | apply mA) w I) hsm) (fun x3 _ => ?_))))
            refine hdn (al1 6 rfl ((stv ty28 (Lens.id _) (.t rfl) (.t rfl) ?_)))
            refine hdn (al1 7 rfl ((stv ty28 (Lens.id _) (.t rfl) (.t rfl) ?_)))
            refine hdn (ovr (pN (meetP (X := CB × CB × Nat × Nat) (_, _, _, _) trivial (by repeat first | exact Sub.nil | refine Sub.cons rfl ?_) (by repeat first | exact SubP.nil | refine SubP.cons (by repeat first | exact Rem.head | apply Rem.tail) ?_))))
        · refine (alloc z28 (fun b11 => ?_))
          refine hdn (all [3, 4] (by kernel_rfl) (by decide) (.cons rfl ?_ (.cons rfl ?_ .nil)))
          · refine (calln (X := CB) (fun _ => True) (fun x => eConf.val (x.c c.default)) (fun x => x.R (takeC l 1100)) en16 (.cons (.t rfl) .nil) (fun w I => copy_ok ((subC x0 (takeC l 1100)).c c.default) (takeC l 1100) w (marked_own (x := x0) (l := (takeC l 1100)) (fun r hr => by simp only [CB.R, List.mem_cons, List.not_mem_nil, or_false] at hr; rcases hr with rfl | rfl | rfl | rfl | rfl <;> repeat first | exact mH | apply mT | apply mA) w I) hsm) (fun x3 _ => ?_))
            refine hdn (al1 4 rfl ((alloc z28 (fun b12 => ?_))))
            refine hdn (al1 6 rfl ((stv ty28 (Lens.id _) (.t rfl) (.t rfl) ?_)))
            refine hdn (al1 7 rfl ((stv ty28 (Lens.id _) (.t rfl) (.t rfl) ?_)))
            refine hdn (ovr (pN (meetP (X := CB × CB × Nat × Nat) (_, _, _, _) trivial (by repeat first | exact Sub.nil | refine Sub.cons rfl ?_) (by repeat first | exact SubP.nil | refine SubP.cons (by repeat first | exact Rem.head | apply Rem.tail) ?_))))
          · refine (alloc z28 (fun b13 => ?_))
            refine hdn (al1 3 rfl ((calln (X := CB) (fun _ => True) (fun x => eConf.val (x.c c.default)) (fun x => x.R (takeC l 1100)) en16 (.cons (.t rfl) .nil) (fun w I => copy_ok ((subC x0 (takeC l 1100)).c c.default) (takeC l 1100) w (marked_own (x := x0) (l := (takeC l 1100)) (fun r hr => by simp only [CB.R, List.mem_cons, List.not_mem_nil, or_false] at hr; rcases hr with rfl | rfl | rfl | rfl | rfl <;> repeat first | exact mH | apply mT | apply mA) w I) hsm) (fun x3 _ => ?_))))
            refine hdn (al1 6 rfl ((stv ty28 (Lens.id _) (.t rfl) (.t rfl) ?_)))
            refine hdn (al1 7 rfl ((stv ty28 (Lens.id _) (.t rfl) (.t rfl) ?_)))
            refine hdn (ovr (pN (meetP (X := CB × CB × Nat × Nat) (_, _, _, _) trivial (by repeat first | exact Sub.nil | refine Sub.cons rfl ?_) (by repeat first | exact SubP.nil | refine SubP.cons (by repeat first | exact Rem.head | apply Rem.tail) ?_))))
      · refine (alloc z28 (fun b14 => ?_))
        refine hdn (all [1, 5] (by kernel_rfl) (by decide) (.cons rfl ?_ (.cons rfl ?_ .nil)))
        · refine (calln (X := CB) (fun _ => True) (fun x => eConf.val (x.c c.default)) (fun x => x.R (takeC l 1100)) en16 (.cons (.t rfl) .nil) (fun w I => copy_ok ((subC x0 (takeC l 1100)).c c.default) (takeC l 1100) w (marked_own (x := x0) (l := (takeC l 1100)) (fun r hr => by simp only [CB.R, List.mem_cons, List.not_mem_nil, or_false] at hr; rcases hr with rfl | rfl | rfl | rfl | rfl <;> repeat first | exact mH | apply mT | apply mA) w I) hsm) (fun x2 _ => ?_))
          refine hdn (all [3, 5] (by kernel_rfl) (by decide) (.cons rfl ?_ (.cons rfl ?_ .nil)))
          · refine (calln (X := CB) (fun _ => True) (fun x => eConf.val (x.c c.default)) (fun x => x.R (takeC l 1100)) en16 (.cons (.t rfl) .nil) (fun w I => copy_ok ((subC x0 (takeC l 1100)).c c.default) (takeC l 1100) w (marked_own (x := x0) (l := (takeC l 1100)) (fun r hr => by simp only [CB.R, List.mem_cons, List.not_mem_nil, or_false] at hr; rcases hr with rfl | rfl | rfl | rfl | rfl <;> repeat first | exact mH | apply mT | apply mA) w I) hsm) (fun x3 _ => ?_))
            refine hdn (al1 5 rfl ((alloc z28 (fun b15 => ?_))))
            refine hdn (al1 6 rfl ((stv ty28 (Lens.id _) (.t rfl) (.t rfl) ?_)))
            refine hdn (al1 7 rfl ((stv ty28 (Lens.id _) (.t rfl) (.t rfl) ?_)))
            refine hdn (ovr (pN (meetP (X := CB × CB × Nat × Nat) (_, _, _, _) trivial (by repeat first | exact Sub.nil | refine Sub.cons rfl ?_) (by repeat first | exact SubP.nil | refine SubP.cons (by repeat first | exact Rem.head | apply Rem.tail) ?_))))
          · refine (alloc z28 (fun b16 => ?_))
            refine hdn (al1 3 rfl ((calln (X := CB) (fun _ => True) (fun x => eConf.val (x.c c.default)) (fun x => x.R (takeC l 1100)) en16 (.cons (.t rfl) .nil) (fun w I => copy_ok ((subC x0 (takeC l 1100)).c c.default) (takeC l 1100) w (marked_own (x := x0) (l := (takeC l 1100)) (fun r hr => by simp only [CB.R, List.mem_cons, List.not_mem_nil, or_false] at hr; rcases hr with rfl | rfl | rfl | rfl | rfl <;> repeat first | exact mH | apply mT | apply mA) w I) hsm) (fun x3 _ => ?_))))
            refine hdn (al1 6 rfl ((stv ty28 (Lens.id _) (.t rfl) (.t rfl) ?_)))
            refine hdn (al1 7 rfl ((stv ty28 (Lens.id _) (.t rfl) (.t rfl) ?_)))
            refine hdn (ovr (pN (meetP (X := CB × CB × Nat × Nat) (_, _, _, _) trivial (by repeat first | exact Sub.nil | refine Sub.cons rfl ?_) (by repeat first | exact SubP.nil | refine SubP.cons (by repeat first | exact Rem.head | apply Rem.tail) ?_))))
        · refine (alloc z28 (fun b17 => ?_))
          refine hdn (al1 1 rfl ((calln (X := CB) (fun _ => True) (fun x => eConf.val (x.c c.default)) (fun x => x.R (takeC l 1100)) en16 (.cons (.t rfl) .nil) (fun w I => copy_ok ((subC x0 (takeC l 1100)).c c.default) (takeC l 1100) w (marked_own (x := x0) (l := (takeC l 1100)) (fun r hr => by simp only [CB.R, List.mem_cons, List.not_mem_nil, or_false] at hr; rcases hr with rfl | rfl | rfl | rfl | rfl <;> repeat first | exact mH | apply mT | apply mA) w I) hsm) (fun x2 _ => ?_))))
          refine hdn (al1 3 rfl ((calln (X := CB) (fun _ => True) (fun x => eConf.val (x.c c.default)) (fun x => x.R (takeC l 1100)) en16 (.cons (.t rfl) .nil) (fun w I => copy_ok ((subC x0 (takeC l 1100)).c c.default) (takeC l 1100) w (marked_own (x := x0) (l := (takeC l 1100)) (fun r hr => by simp only [CB.R, List.mem_cons, List.not_mem_nil, or_false] at hr; rcases hr with rfl | rfl | rfl | rfl | rfl <;> repeat first | exact mH | apply mT | apply mA) w I) hsm) (fun x3 _ => ?_))))
          refine hdn (al1 6 rfl ((stv ty28 (Lens.id _) (.t rfl) (.t rfl) ?_)))
          refine hdn (al1 7 rfl ((stv ty28 (Lens.id _) (.t rfl) (.t rfl) ?_)))
          refine hdn (ovr (pN (meetP (X := CB × CB × Nat × Nat) (_, _, _, _) trivial (by repeat first | exact Sub.nil | refine Sub.cons rfl ?_) (by repeat first | exact SubP.nil | refine SubP.cons (by repeat first | exact Rem.head | apply Rem.tail) ?_))))
      · refine (alloc z28 (fun b18 => ?_))
        refine hdn (all [1, 4] (by kernel_rfl) (by decide) (.cons rfl ?_ (.cons rfl ?_ .nil)))
        · refine (calln (X := CB) (fun _ => True) (fun x => eConf.val (x.c c.default)) (fun x => x.R (takeC l 1100)) en16 (.cons (.t rfl) .nil) (fun w I => copy_ok ((subC x0 (takeC l 1100)).c c.default) (takeC l 1100) w (marked_own (x := x0) (l := (takeC l 1100)) (fun r hr => by simp only [CB.R, List.mem_cons, List.not_mem_nil, or_false] at hr; rcases hr with rfl | rfl | rfl | rfl | rfl <;> repeat first | exact mH | apply mT | apply mA) w I) hsm) (fun x2 _ => ?_))
          refine hdn (all [3, 4] (by kernel_rfl) (by decide) (.cons rfl ?_ (.cons rfl ?_ .nil)))
          · refine (calln (X := CB) (fun _ => True) (fun x => eConf.val (x.c c.default)) (fun x => x.R (takeC l 1100)) en16 (.cons (.t rfl) .nil) (fun w I => copy_ok ((subC x0 (takeC l 1100)).c c.default) (takeC l 1100) w (marked_own (x := x0) (l := (takeC l 1100)) (fun r hr => by simp only [CB.R, List.mem_cons, List.not_mem_nil, or_false] at hr; rcases hr with rfl | rfl | rfl | rfl | rfl <;> repeat first | exact mH | apply mT | apply mA) w I) hsm) (fun x3 _ => ?_))
            refine hdn (al1 4 rfl ((alloc z28 (fun b19 => ?_))))
            refine hdn (al1 6 rfl ((stv ty28 (Lens.id _) (.t rfl) (.t rfl) ?_)))
            refine hdn (al1 7 rfl ((stv ty28 (Lens.id _) (.t rfl) (.t rfl) ?_)))
            refine hdn (ovr (pN (meetP (X := CB × CB × Nat × Nat) (_, _, _, _) trivial (by repeat first | exact Sub.nil | refine Sub.cons rfl ?_) (by repeat first | exact SubP.nil | refine SubP.cons (by repeat first | exact Rem.head | apply Rem.tail) ?_))))
          · refine (alloc z28 (fun b20 => ?_))
            refine hdn (al1 3 rfl ((calln (X := CB) (fun _ => True) (fun x => eConf.val (x.c c.default)) (fun x => x.R (takeC l 1100)) en16 (.cons (.t rfl) .nil) (fun w I => copy_ok ((subC x0 (takeC l 1100)).c c.default) (takeC l 1100) w (marked_own (x := x0) (l := (takeC l 1100)) (fun r hr => by simp only [CB.R, List.mem_cons, List.not_mem_nil, or_false] at hr; rcases hr with rfl | rfl | rfl | rfl | rfl <;> repeat first | exact mH | apply mT | apply mA) w I) hsm) (fun x3 _ => ?_))))
            refine hdn (al1 6 rfl ((stv ty28 (Lens.id _) (.t rfl) (.t rfl) ?_)))
            refine hdn (al1 7 rfl ((stv ty28 (Lens.id _) (.t rfl) (.t rfl) ?_)))
            refine hdn (ovr (pN (meetP (X := CB × CB × Nat × Nat) (_, _, _, _) trivial (by repeat first | exact Sub.nil | refine Sub.cons rfl ?_) (by repeat first | exact SubP.nil | refine SubP.cons (by repeat first | exact Rem.head | apply Rem.tail) ?_))))
        · refine (alloc z28 (fun b21 => ?_))
          refine hdn (al1 1 rfl ((calln (X := CB) (fun _ => True) (fun x => eConf.val (x.c c.default)) (fun x => x.R (takeC l 1100)) en16 (.cons (.t rfl) .nil) (fun w I => copy_ok ((subC x0 (takeC l 1100)).c c.default) (takeC l 1100) w (marked_own (x := x0) (l := (takeC l 1100)) (fun r hr => by simp only [CB.R, List.mem_cons, List.not_mem_nil, or_false] at hr; rcases hr with rfl | rfl | rfl | rfl | rfl <;> repeat first | exact mH | apply mT | apply mA) w I) hsm) (fun x2 _ => ?_))))
          refine hdn (al1 3 rfl ((calln (X := CB) (fun _ => True) (fun x => eConf.val (x.c c.default)) (fun x => x.R (takeC l 1100)) en16 (.cons (.t rfl) .nil) (fun w I => copy_ok ((subC x0 (takeC l 1100)).c c.default) (takeC l 1100) w (marked_own (x := x0) (l := (takeC l 1100)) (fun r hr => by simp only [CB.R, List.mem_cons, List.not_mem_nil, or_false] at hr; rcases hr with rfl | rfl | rfl | rfl | rfl <;> repeat first | exact mH | apply mT | apply mA) w I) hsm) (fun x3 _ => ?_))))
          refine hdn (al1 6 rfl ((stv ty28 (Lens.id _) (.t rfl) (.t rfl) ?_)))
          refine hdn (al1 7 rfl ((stv ty28 (Lens.id _) (.t rfl) (.t rfl) ?_)))
          refine hdn (ovr (pN (meetP (X := CB × CB × Nat × Nat) (_, _, _, _) trivial (by repeat first | exact Sub.nil | refine Sub.cons rfl ?_) (by repeat first | exact SubP.nil | refine SubP.cons (by repeat first | exact Rem.head | apply Rem.tail) ?_))))
    obtain ⟨x2, x3, p9, p10⟩ := x
    show Sat _ _ [(3, true, .pointer (some ⟨b2, 0, none⟩)), (4, true, .pointer (some ⟨b3, 0, none⟩)), (6, true, f2.v), (7, true, f3.v), (9, true, .pointer (some ⟨p9, 0, none⟩)), (10, true, .pointer (some ⟨p10, 0, none⟩))] [Var p9 eConf (x2.c c.default) 28, Var p10 eConf (x3.c c.default) 28, OwnS x2.o1.v iE (takeC l 1100).ps 3, OwnS x2.o2.v eRoute (takeC l 1100).rs 52, OwnS x2.o3.v eRule (takeC l 1100).us 76, OwnS x2.o4.v eMeterConf (takeC l 1100).ms 57, OwnS x2.o5.v eMirrorConf (takeC l 1100).xs 59, OwnS x3.o1.v iE (takeC l 1100).ps 3, OwnS x3.o2.v eRoute (takeC l 1100).rs 52, OwnS x3.o3.v eRule (takeC l 1100).us 76, OwnS x3.o4.v eMeterConf (takeC l 1100).ms 57, OwnS x3.o5.v eMirrorConf (takeC l 1100).xs 59, OwnS f2.v eFault (checkF (takeC l 1100) c.default) 37, OwnS f3.v eFault (checkF (takeC l 1100) c.default) 37, Var b3 eConf (x1.c c.default) 28, OwnS x1.o1.v iE (takeC l 1100).ps 3, OwnS x1.o2.v eRoute (takeC l 1100).rs 52, OwnS x1.o3.v eRule (takeC l 1100).us 76, OwnS x1.o4.v eMeterConf (takeC l 1100).ms 57, OwnS x1.o5.v eMirrorConf (takeC l 1100).xs 59, Var b2 eConf ((subC x0 (takeC l 1100)).c c.default) 28, OwnS x0.o1.v iE (markL (takeC l 1100)).ps 3, OwnS x0.o2.v eRoute (markL (takeC l 1100)).rs 52, OwnS x0.o3.v eRule (markL (takeC l 1100)).us 76, OwnS x0.o4.v eMeterConf (markL (takeC l 1100)).ms 57, OwnS x0.o5.v eMirrorConf (markL (takeC l 1100)).xs 59]
    refine seq (seq (region (cons (opv (Ev.to (v' := eConf.val (x2.c c.default)) (Ev.ldv ty28 (.t rfl) (Lens.id _)) (rfl)) ?_))))
    refine cons (opv (Ev.to (v' := eConf.val (x1.c c.default)) (Ev.ldv ty28 (.t rfl) (Lens.id _)) (rfl)) ?_)
    refine cons (callv en17 (.cons (.t rfl) (.cons (.t rfl) .nil)) (fun w I => rexact_ok (x2.c c.default) (x1.c c.default) (takeC l 1100) (takeC l 1100) w (confAt_own (x := x2) (l := (takeC l 1100)) (fun r hr => by simp only [CB.R, List.mem_cons, List.not_mem_nil, or_false] at hr; rcases hr with rfl | rfl | rfl | rfl | rfl <;> repeat first | exact mH | apply mT | apply mA) w I) (confAt_own (x := x1) (l := (takeC l 1100)) (fun r hr => by simp only [CB.R, List.mem_cons, List.not_mem_nil, or_false] at hr; rcases hr with rfl | rfl | rfl | rfl | rfl <;> repeat first | exact mH | apply mT | apply mA) w I)) ?_)
    refine cons (opv (Ev.to (v' := .bool false) (Ev.not (.t rfl)) (congrArg Value.bool (by show (!exactB (takeC l 1100) (takeC l 1100) c.default c.default) = false; rw [exactB_self]; rfl))) ?_)
    refine cons (opv (Ev.move (.t rfl)) (cons (opg rfl rfl (Ev.to (v' := eConf.val (x3.c c.default)) (Ev.ldv ty28 (.t rfl) (Lens.id _)) (rfl)) ?_)))
    refine cons (opg rfl rfl (Ev.to (v' := eConf.val (x1.c c.default)) (Ev.ldv ty28 (.t rfl) (Lens.id _)) (rfl)) ?_)
    refine cons (callg rfl rfl en17 (.cons (.g rfl id) (.cons (.g rfl id) .nil)) (fun hg w I => rexact_ok (x3.c c.default) (x1.c c.default) (takeC l 1100) (takeC l 1100) w (confAt_own (x := x3) (l := (takeC l 1100)) (fun r hr => by simp only [CB.R, List.mem_cons, List.not_mem_nil, or_false] at hr; rcases hr with rfl | rfl | rfl | rfl | rfl <;> repeat first | exact mH | apply mT | apply mA) w I) (confAt_own (x := x1) (l := (takeC l 1100)) (fun r hr => by simp only [CB.R, List.mem_cons, List.not_mem_nil, or_false] at hr; rcases hr with rfl | rfl | rfl | rfl | rfl <;> repeat first | exact mH | apply mT | apply mA) w I)) ?_)
    refine cons (opg rfl rfl (Ev.to (v' := .bool false) (Ev.not (.g rfl id)) (congrArg Value.bool (by show (!exactB (takeC l 1100) (takeC l 1100) c.default c.default) = false; rw [exactB_self]; rfl))) ?_)
    refine cons (opv (Ev.to (v' := .bool false) (Ev.pickO (.t rfl) (.c (v := .bool true) rfl) (fun {_} h => by cases h; rfl) ⟨_, rfl⟩ (by intro h1 h; first | (rw [h] <;> rfl) | (rw [h1, h] <;> rfl) | (rw [h, h1] <;> rfl) | simp_all)) (rfl)) ?_)
    refine nil (pN (condF rfl (rfl) ?_))
    refine skip (pN (seq (sepsIn (r := OwnS x2.o1.v iE (takeC l 1100).ps 3) (l := [OwnS x2.o2.v eRoute (takeC l 1100).rs 52, OwnS x2.o3.v eRule (takeC l 1100).us 76, OwnS x2.o4.v eMeterConf (takeC l 1100).ms 57, OwnS x2.o5.v eMirrorConf (takeC l 1100).xs 59]) (M := [Var p9 eConf (x2.c c.default) 28, Var p10 eConf (x3.c c.default) 28, OwnS x3.o1.v iE (takeC l 1100).ps 3, OwnS x3.o2.v eRoute (takeC l 1100).rs 52, OwnS x3.o3.v eRule (takeC l 1100).us 76, OwnS x3.o4.v eMeterConf (takeC l 1100).ms 57, OwnS x3.o5.v eMirrorConf (takeC l 1100).xs 59, OwnS f2.v eFault (checkF (takeC l 1100) c.default) 37, OwnS f3.v eFault (checkF (takeC l 1100) c.default) 37, Var b3 eConf (x1.c c.default) 28, OwnS x1.o1.v iE (takeC l 1100).ps 3, OwnS x1.o2.v eRoute (takeC l 1100).rs 52, OwnS x1.o3.v eRule (takeC l 1100).us 76, OwnS x1.o4.v eMeterConf (takeC l 1100).ms 57, OwnS x1.o5.v eMirrorConf (takeC l 1100).xs 59, Var b2 eConf ((subC x0 (takeC l 1100)).c c.default) 28, OwnS x0.o1.v iE (markL (takeC l 1100)).ps 3, OwnS x0.o2.v eRoute (markL (takeC l 1100)).rs 52, OwnS x0.o3.v eRule (markL (takeC l 1100)).us 76, OwnS x0.o4.v eMeterConf (markL (takeC l 1100)).ms 57, OwnS x0.o5.v eMirrorConf (markL (takeC l 1100)).xs 59]) (by repeat first | exact SubP.nil | refine SubP.cons (by repeat first | exact Rem.head | apply Rem.tail) ?_) ?_)))
    refine region (cons (opv (Ev.to (v' := eConf.val (x2.c c.default)) (Ev.ldv ty28 (.t rfl) (Lens.id _)) (rfl)) ?_))
    refine cons (callr (X := Unit) (r := OC x2 (takeC l 1100)) (r' := fun _ => Emp) (fun _ => True) (fun _ => .tuple #[]) (fun _ => by repeat first | exact Upd.head | apply Upd.tail | apply Upd.right) (by repeat first | exact mH | apply mT | apply mA) en18 (.cons (.t rfl) .nil) (fun w I => spoil_ok x2 (takeC l 1100) c.default w (at_mem (by repeat first | exact mH | apply mT | apply mA) w I) hsm) (fun _ _ => ?_))
    refine nil (pN (seq (region (cons (opv (Ev.move (.t rfl)) (cons (opv (Ev.move (.t rfl)) (cons (callv en14 (.cons (.t rfl) (.cons (.t rfl) .nil)) (fun w I => sameFaults_ok _ _ _ _ w (by first | exact isSl_own (by repeat first | exact mH | apply mT | apply mA) w I | exact IsSl.keep0 (by assumption) I.keeps) (by first | exact isSl_own (by repeat first | exact mH | apply mT | apply mA) w I | exact IsSl.keep0 (by assumption) I.keeps)) ?_)))))))))
    refine cons (opv (Ev.to (v' := .bool true) (Ev.move (.t rfl)) (congrArg Value.bool (by simp))) ?_)
    refine cons (opg rfl rfl (Ev.to (v' := eConf.val (x3.c c.default)) (Ev.ldv ty28 (.t rfl) (Lens.id _)) (rfl)) ?_)
    refine cons (opg rfl rfl (Ev.to (v' := eConf.val (x1.c c.default)) (Ev.ldv ty28 (.t rfl) (Lens.id _)) (rfl)) ?_)
    refine cons (callg rfl rfl en17 (.cons (.g rfl id) (.cons (.g rfl id) .nil)) (fun hg w I => rexact_ok (x3.c c.default) (x1.c c.default) (takeC l 1100) (takeC l 1100) w (confAt_own (x := x3) (l := (takeC l 1100)) (fun r hr => by simp only [CB.R, List.mem_cons, List.not_mem_nil, or_false] at hr; rcases hr with rfl | rfl | rfl | rfl | rfl <;> repeat first | exact mH | apply mT | apply mA) w I) (confAt_own (x := x1) (l := (takeC l 1100)) (fun r hr => by simp only [CB.R, List.mem_cons, List.not_mem_nil, or_false] at hr; rcases hr with rfl | rfl | rfl | rfl | rfl <;> repeat first | exact mH | apply mT | apply mA) w I)) ?_)
    refine cons (opv (Ev.to (v' := .bool true) (Ev.pickA (.t rfl) (fun {_} h => by cases h; rfl) ⟨_, rfl⟩ (by intro h1 h; first | (rw [h] <;> rfl) | (rw [h1, h] <;> rfl) | (rw [h, h1] <;> rfl) | simp_all) (.c (v := .bool false) rfl)) (congrArg Value.bool (exactB_self (takeC l 1100) c.default))) ?_)
    refine cons (opv (Ev.move (.t rfl)) (cons (opg rfl rfl (Ev.to (v' := eConf.val ((subC x0 (takeC l 1100)).c c.default)) (Ev.ldv ty28 (.t rfl) (Lens.id _)) (rfl)) ?_)))
    refine cons (opg rfl rfl (Ev.to (v' := eConf.val (x1.c c.default)) (Ev.ldv ty28 (.t rfl) (Lens.id _)) (rfl)) ?_)
    refine cons (callg rfl rfl en17 (.cons (.g rfl id) (.cons (.g rfl id) .nil)) (fun hg w I => rexact_ok ((subC x0 (takeC l 1100)).c c.default) (x1.c c.default) (takeC l 1100) (takeC l 1100) w (marked_own (x := x0) (l := (takeC l 1100)) (fun r hr => by simp only [CB.R, List.mem_cons, List.not_mem_nil, or_false] at hr; rcases hr with rfl | rfl | rfl | rfl | rfl <;> repeat first | exact mH | apply mT | apply mA) w I) (confAt_own (x := x1) (l := (takeC l 1100)) (fun r hr => by simp only [CB.R, List.mem_cons, List.not_mem_nil, or_false] at hr; rcases hr with rfl | rfl | rfl | rfl | rfl <;> repeat first | exact mH | apply mT | apply mA) w I)) ?_)
    refine cons (opv (Ev.to (v' := .bool true) (Ev.pickA (.t rfl) (fun {_} h => by cases h; rfl) ⟨_, rfl⟩ (by intro h1 h; first | (rw [h] <;> rfl) | (rw [h1, h] <;> rfl) | (rw [h, h1] <;> rfl) | simp_all) (.c (v := .bool false) rfl)) (congrArg Value.bool (exactB_self (takeC l 1100) c.default))) ?_)
    refine cons (opv (Ev.move (.t rfl)) (cons (opg rfl rfl (Ev.to (v' := eConf.val ((subC x0 (takeC l 1100)).c c.default)) (Ev.ldv ty28 (.t rfl) (Lens.id _)) (rfl)) ?_)))
    refine cons (callg rfl rfl en19 (.cons (.g rfl id) .nil) (fun hg w I => marked_ok x0 (takeC l 1100) c.default w (confAt_own (x := x0) (l := (markL (takeC l 1100))) (fun r hr => by simp only [CB.R, List.mem_cons, List.not_mem_nil, or_false] at hr; rcases hr with rfl | rfl | rfl | rfl | rfl <;> repeat first | exact mH | apply mT | apply mA) w I)) ?_)
    refine cons (opv (Ev.to (v' := .bool true) (Ev.pickA (.t rfl) (fun {_} h => by cases h; rfl) ⟨_, rfl⟩ (by intro h1 h; first | (rw [h] <;> rfl) | (rw [h1, h] <;> rfl) | (rw [h, h1] <;> rfl) | simp_all) (.c (v := .bool false) rfl)) (rfl)) ?_)
    refine cons (opv (Ev.move (.t rfl)) (cons (callg rfl rfl en20 .nil (fun hg w I => works_ok w) ?_)))
    refine cons (opv (Ev.to (v' := .bool true) (Ev.pickA (.t rfl) (fun {_} h => by cases h; rfl) ⟨_, rfl⟩ (by intro h1 h; first | (rw [h] <;> rfl) | (rw [h1, h] <;> rfl) | (rw [h, h1] <;> rfl) | simp_all) (.c (v := .bool false) rfl)) (rfl)) ?_)
    refine cons (opv (Ev.assign (.t rfl)) (nil (pN (ret (done rfl (.tmp rfl .nil) (retE ?_))))))
    rfl
end Go.Proofs.YtnoobdijbpmjkaaGreat
