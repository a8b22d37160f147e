/- conf -/
import Derived.Test.YtnoobdijbpmjkaaGreatC26
set_option linter.unusedVariables false
set_option linter.unusedSimpArgs false
namespace Go.Proofs.YtnoobdijbpmjkaaGreat
open Go Go.Gx

theorem rckport_ok (c : SConf) (l : CL) (i : Int) (w : World) (hc : ConfAt w c l) (hi : 0 ≤ i ∧ i < l.ps.length) : Calls Tryz.prog 119 #[eConf.val c, I i] w (RetV w (I (portE l.ps (l.ps.getD i.toNat iE.zero) i))) := by
  have hle := hc.ps.le
  refine enter0 35 Tryz.func119 rfl rfl (Nat.le_of_ble_eq_true rfl) ?_
  refine seq (region (cons (box (E := eConf) (.t rfl) (fun b1 => ?_))))
  refine cons (opv (Ev.assign (.c (v := I 0) rfl)) ?_)
  refine nil (pN (seq (seq (region (cons (opv (Ev.fieldAddr (o := 0) (.t rfl) (by kernel_rfl)) ?_))))))
  refine cons (opv (Ev.load (xv := c.ports) ty22 (.t rfl) (ptsVar (by repeat first | exact mH | apply mT | apply mA) SConf.l_ports)) ?_)
  refine cons (opv (Ev.move (.t rfl)) (cons (opv (Ev.indexAddr Tryz.underlying22 ty3 (.t rfl) (.t rfl) (fun w I => (hc.keep0 I.keeps).ps) (fun _ => by omega)) ?_)))
  refine cons (opv (Ev.loadS0 ty3 (.t rfl) (fun w I => (hc.keep0 I.keeps).ps) (fun _ => by omega)) ?_)
  refine cons (opv (Ev.lss_i (.t rfl) (.c (v := I 0) rfl)) ?_)
  refine cons (opv (Ev.move (.t rfl)) (cons (opg rfl rfl (Ev.fieldAddr (o := 0) (.t rfl) (by kernel_rfl)) ?_)))
  refine cons (opg rfl rfl (Ev.load (xv := c.ports) ty22 (.g rfl id) (ptsVar (by repeat first | exact mH | apply mT | apply mA) SConf.l_ports)) ?_)
  refine cons (opg rfl rfl (Ev.move (.t rfl)) ?_)
  refine cons (opg rfl rfl (Ev.indexAddr Tryz.underlying22 ty3 (.g rfl id) (.g rfl id) (fun w I => (hc.keep0 I.keeps).ps) (fun _ => by first | omega | (rename_i hg; simp at hg; omega))) ?_)
  refine cons (opg rfl rfl (Ev.loadS0 ty3 (.g rfl id) (fun w I => (hc.keep0 I.keeps).ps) (fun _ => by first | omega | (rename_i hg; simp at hg; omega))) ?_)
  refine cons (opg rfl rfl (Ev.gtr_i (.g rfl id) (.c (v := I 255) rfl)) ?_)
  refine cons (opv (Ev.pickO (.t rfl) (.c (v := .bool true) rfl) (fun {_} h => by cases h; rfl) ⟨_, rfl⟩ (by intro h1 h; first | (rw [h] <;> rfl) | (rw [h1, h] <;> rfl) | (rw [h, h1] <;> rfl) | simp_all)) ?_)
  refine nil (pN ?_)
  first | refine condD rfl (fun h0 => ?_) (fun h0 => ?_) | refine cond rfl (fun h0 => ?_) (fun h0 => ?_)
  · refine seq (region (cons (opv (Ev.assign (.c (v := I 5) rfl)) ?_)))
    refine nil (pN (ret (pR (done rfl (.tmp rfl .nil) (retE ?_)))))
    unfold portE; rw [if_pos (by simpa using h0)]; rfl
  · refine skip (pN (seq (seq (draw' (by kernel_rfl) ?_))))
    refine tk 0 rfl (Ev.move (.t rfl)) ?_
    refine tk 1 rfl (Ev.gtr_i (.t rfl) (.c (v := I 0) rfl)) ?_
    refine tk 2 rfl (Ev.move (.t rfl)) ?_
    refine tkg 3 rfl rfl rfl (Ev.fieldAddr (o := 0) (.t rfl) (by kernel_rfl)) ?_
    refine tkg 4 rfl rfl rfl (Ev.load (xv := c.ports) ty22 (.g rfl id) (ptsVar (by repeat first | exact mH | apply mT | apply mA) SConf.l_ports)) ?_
    refine tkg 5 rfl rfl rfl (Ev.move (.t rfl)) ?_
    refine tkg 6 rfl rfl rfl (Ev.indexAddr Tryz.underlying22 ty3 (.g rfl id) (.g rfl id) (fun w I => (hc.keep0 I.keeps).ps) (fun _ => by first | omega | (rename_i hg; simp at hg; omega))) ?_
    refine tkg 7 rfl rfl rfl (Ev.loadS0 ty3 (.g rfl id) (fun w I => (hc.keep0 I.keeps).ps) (fun _ => by first | omega | (rename_i hg; simp at hg; omega))) ?_
    refine tkg 8 rfl rfl rfl (Ev.fieldAddr (o := 0) (.t rfl) (by kernel_rfl)) ?_
    refine tkg 9 rfl rfl rfl (Ev.load (xv := c.ports) ty22 (.g rfl id) (ptsVar (by repeat first | exact mH | apply mT | apply mA) SConf.l_ports)) ?_
    refine tkg 10 rfl rfl rfl (Ev.move (.t rfl)) ?_
    refine tkg 11 rfl rfl rfl (Ev.sub_i (.g rfl id) (.c (v := I 1) rfl) (fun _ => by first | omega | (rename_i hg; simp at hg; omega))) ?_
    refine tkg 12 rfl rfl rfl (Ev.indexAddr Tryz.underlying22 ty3 (.g rfl id) (.g rfl id) (fun w I => (hc.keep0 I.keeps).ps) (fun _ => by first | omega | (rename_i hg; simp at hg; omega))) ?_
    refine tkg 13 rfl rfl rfl (Ev.loadS0 ty3 (.g rfl id) (fun w I => (hc.keep0 I.keeps).ps) (fun _ => by first | omega | (rename_i hg; simp at hg; omega))) ?_
    refine tkg 14 rfl rfl rfl (Ev.leq_i (.g rfl id) (.g rfl id)) ?_
    refine tk 15 rfl (Ev.pickA (.t rfl) (fun {_} h => by cases h; rfl) ⟨_, rfl⟩ (by intro h1 h; first | (rw [h] <;> rfl) | (rw [h1, h] <;> rfl) | (rw [h, h1] <;> rfl) | simp_all) (.c (v := .bool false) rfl)) ?_
    refine ovr (pN ?_)
    first | refine condD rfl (fun h1 => ?_) (fun h1 => ?_) | refine cond rfl (fun h1 => ?_) (fun h1 => ?_)
    · refine seq (region (cons (opv (Ev.assign (.c (v := I 2) rfl)) ?_)))
      refine nil (pN (ret (pR (done rfl (.tmp rfl .nil) (retE ?_)))))
      have ez : (iE.zero : Int) = 0 := rfl
      unfold portE; rw [if_neg (by simpa using h0), if_pos (by simpa [ez] using h1)]; rfl
    · refine skip (pN (seq (region (cons (opv (Ev.assign (.c (v := I 0) rfl)) ?_)))))
      refine nil (pN (ret (done rfl (.tmp rfl .nil) (retE ?_))))
      have ez : (iE.zero : Int) = 0 := rfl
      unfold portE; rw [if_neg (by simpa using h0), if_neg (by simpa [ez] using h1)]; rfl

theorem en154 : Gx.Enters Tryz.prog 154 := Gx.Enters.mk' (by kernel_rfl)

theorem en124 : Gx.Enters Tryz.prog 124 := Gx.Enters.mk' (by kernel_rfl)

theorem en125 : Gx.Enters Tryz.prog 125 := Gx.Enters.mk' (by kernel_rfl)

theorem rckroute_ok (c : SConf) (l : CL) (i : Int) (w : World) (hc : ConfAt w c l) (hi : 0 ≤ i ∧ i < l.rs.length) : Calls Tryz.prog 120 #[eConf.val c, I i] w (RetV w (I (routeE l (l.rs.getD i.toNat eRoute.zero) i))) := by
  have hle := hc.rs.le
  have hix := find_at SPrefix.eqb_iff (fun r => r.to_) l.rs eRoute.zero i.toNat (by omega)
  have hix3 : (findV SPrefix.eqb (l.rs.getD i.toNat eRoute.zero).to_ (routesM l)).getD 0 = idxF (fun z => SPrefix.eqb z.to_ (l.rs.getD i.toNat eRoute.zero).to_) l.rs := hix
  refine enter0 26 Tryz.func120 rfl rfl (Nat.le_of_ble_eq_true rfl) ?_
  refine seq (region (cons (box (E := eConf) (.t rfl) (fun b1 => ?_))))
  refine cons (opv (Ev.assign (.c (v := I 0) rfl)) ?_)
  refine nil (pN (seq (region (cons (opv (Ev.fieldAddr (o := 1) (.t rfl) (by kernel_rfl)) ?_)))))
  refine cons (opv (Ev.load (xv := c.routes) ty23 (.t rfl) (ptsVar (by repeat first | exact mH | apply mT | apply mA) SConf.l_routes)) ?_)
  refine cons (opv (Ev.move (.t rfl)) (cons (opv (Ev.indexAddr Tryz.underlying23 ty52 (.t rfl) (.t rfl) (fun w I => (hc.keep0 I.keeps).rs) (fun _ => by omega)) ?_)))
  refine cons (opv (Ev.loadS0 ty52 (.t rfl) (fun w I => (hc.keep0 I.keeps).rs) (fun _ => by omega)) ?_)
  refine cons (alloc z52 (fun b2 => ?_))
  refine cons (stv ty52 (Lens.id _) (.t rfl) (.t rfl) ?_)
  refine nil (pN (seq (seq (region (cons (opv (Ev.fieldAddr (o := 0) (.t rfl) (by kernel_rfl)) ?_))))))
  refine cons (opv (Ev.ldv ty50 (.t rfl) SRoute.l_to_) ?_)
  refine cons (callv en154 (.cons (.t rfl) .nil) (fun w I => r15check_ok _ w) ?_)
  refine cons (opv (Ev.neq_i (.t rfl) (.c (v := I 0) rfl)) ?_)
  refine nil (pN ?_)
  first | refine condD rfl (fun h0 => ?_) (fun h0 => ?_) | refine cond rfl (fun h0 => ?_) (fun h0 => ?_)
  · refine seq (region (cons (opv (Ev.assign (.c (v := I 151) rfl)) ?_)))
    refine nil (pN (ret (pR (done rfl (.tmp rfl .nil) (retE ?_)))))
    have p0 : checkP (l.rs.getD i.toNat eRoute.zero).to_ ≠ 0 := by simpa using h0
    unfold routeE
    rw [if_pos p0]
    rfl
  · refine skip (pN (seq (seq (region (cons (opv (Ev.load (xv := c) ty28 (.t rfl) (ptsVar (by repeat first | exact mH | apply mT | apply mA) (Lens.id _))) ?_))))))
    refine cons (opv (Ev.fieldAddr (o := 18) (.t rfl) (by kernel_rfl)) ?_)
    refine cons (opv (Ev.ldv ty3 (.t rfl) SRoute.l_out) ?_)
    refine cons (callv en124 (.cons (.t rfl) (.cons (.t rfl) .nil)) (fun w I => rport_ok c l _ w (hc.keep0 I.keeps)) ?_)
    refine cons (opv (Ev.not (.t rfl)) ?_)
    refine nil (pN ?_)
    first | refine condD rfl (fun h1 => ?_) (fun h1 => ?_) | refine cond rfl (fun h1 => ?_) (fun h1 => ?_)
    · refine seq (region (cons (opv (Ev.assign (.c (v := I 5) rfl)) ?_)))
      refine nil (pN (ret (pR (done rfl (.tmp rfl .nil) (retE ?_)))))
      have n0 : ¬ (checkP (l.rs.getD i.toNat eRoute.zero).to_ ≠ 0) := by simpa using h0
      have p1 : portB l (l.rs.getD i.toNat eRoute.zero).out = false := by simpa using h1
      unfold routeE
      rw [if_neg n0, if_pos p1]
      rfl
    · refine skip (pN (seq (seq (region (cons (opv (Ev.load (xv := c) ty28 (.t rfl) (ptsVar (by repeat first | exact mH | apply mT | apply mA) (Lens.id _))) ?_))))))
      refine cons (opv (Ev.fieldAddr (o := 0) (.t rfl) (by kernel_rfl)) ?_)
      refine cons (opv (Ev.ldv ty50 (.t rfl) SRoute.l_to_) ?_)
      refine cons (callv en125 (.cons (.t rfl) (.cons (.t rfl) .nil)) (fun w I => rroute_ix c l _ w (hc.keep0 I.keeps)) ?_)
      refine cons (opv (Ev.move (.t rfl)) (cons (opv (Ev.lss_i (.t rfl) (.t rfl)) ?_)))
      refine nil (pN ?_)
      first | refine condD rfl (fun h2 => ?_) (fun h2 => ?_) | refine cond rfl (fun h2 => ?_) (fun h2 => ?_)
      · refine seq (region (cons (opv (Ev.assign (.c (v := I 2) rfl)) ?_)))
        refine nil (pN (ret (pR (done rfl (.tmp rfl .nil) (retE ?_)))))
        have n0 : ¬ (checkP (l.rs.getD i.toNat eRoute.zero).to_ ≠ 0) := by simpa using h0
        have n1 : ¬ (portB l (l.rs.getD i.toNat eRoute.zero).out = false) := by simpa using h1
        have p2 : (findV SPrefix.eqb (l.rs.getD i.toNat eRoute.zero).to_ (routesM l)).getD 0 < i := by rw [hix3]; simpa using h2
        unfold routeE
        rw [if_neg n0, if_neg n1, if_pos p2]
        rfl
      · refine skip (pN (seq (region (cons (opv (Ev.assign (.c (v := I 0) rfl)) ?_)))))
        refine nil (pN (ret (done rfl (.tmp rfl .nil) (retE ?_))))
        have n0 : ¬ (checkP (l.rs.getD i.toNat eRoute.zero).to_ ≠ 0) := by simpa using h0
        have n1 : ¬ (portB l (l.rs.getD i.toNat eRoute.zero).out = false) := by simpa using h1
        have n2 : ¬ ((findV SPrefix.eqb (l.rs.getD i.toNat eRoute.zero).to_ (routesM l)).getD 0 < i) := by rw [hix3]; simpa using h2
        unfold routeE
        rw [if_neg n0, if_neg n1, if_neg n2]
        rfl

theorem en155 : Gx.Enters Tryz.prog 155 := Gx.Enters.mk' (by kernel_rfl)

theorem en126 : Gx.Enters Tryz.prog 126 := Gx.Enters.mk' (by kernel_rfl)

theorem en158 : Gx.Enters Tryz.prog 158 := Gx.Enters.mk' (by kernel_rfl)

theorem rckmeter_ok (c : SConf) (l : CL) (i : Int) (w : World) (hc : ConfAt w c l) (hi : 0 ≤ i ∧ i < l.ms.length) (hn : l.Names) : Calls Tryz.prog 122 #[eConf.val c, I i] w (RetV w (I (meterE l (l.ms.getD i.toNat eMeterConf.zero) i))) := by
  have hle := hc.ms.le
  have hs := hn.ms (l.ms.getD i.toNat eMeterConf.zero) (getD_in _ _ _ (by omega))
  have hix := find_at eqs_iff (fun r => r.name) l.ms eMeterConf.zero i.toNat (by omega)
  have hix3 := by
    have hix2 : (findV eqs (l.ms.getD i.toNat eMeterConf.zero).name (metersM l)).getD 0 = idxF (fun z => decide (z.name = (l.ms.getD i.toNat eMeterConf.zero).name)) l.ms := by
      refine hix.trans (congrArg (fun p => idxF p l.ms) (funext fun z => eqs_dec _ _))
    exact hix2
  refine enter0 27 Tryz.func122 rfl rfl (Nat.le_of_ble_eq_true rfl) ?_
  refine seq (region (cons (box (E := eConf) (.t rfl) (fun b1 => ?_))))
  refine cons (opv (Ev.assign (.c (v := I 0) rfl)) ?_)
  refine nil (pN (seq (region (cons (opv (Ev.fieldAddr (o := 3) (.t rfl) (by kernel_rfl)) ?_)))))
  refine cons (opv (Ev.load (xv := c.meters) ty25 (.t rfl) (ptsVar (by repeat first | exact mH | apply mT | apply mA) SConf.l_meters)) ?_)
  refine cons (opv (Ev.move (.t rfl)) (cons (opv (Ev.indexAddr Tryz.underlying25 ty57 (.t rfl) (.t rfl) (fun w I => (hc.keep0 I.keeps).ms) (fun _ => by omega)) ?_)))
  refine cons (opv (Ev.loadS0 ty57 (.t rfl) (fun w I => (hc.keep0 I.keeps).ms) (fun _ => by omega)) ?_)
  refine cons (alloc z57 (fun b2 => ?_))
  refine cons (stv ty57 (Lens.id _) (.t rfl) (.t rfl) ?_)
  refine nil (pN (seq (seq (region (cons (opv (Ev.fieldAddr (o := 0) (.t rfl) (by kernel_rfl)) ?_))))))
  refine cons (opv (Ev.ldv ty9 (.t rfl) SMeterConf.l_name) ?_)
  refine cons (callv en155 (.cons (.t rfl) .nil) (fun w I => rname_ok _ w hs) ?_)
  refine cons (opv (Ev.not (.t rfl)) ?_)
  refine nil (pN ?_)
  first | refine condD rfl (fun h0 => ?_) (fun h0 => ?_) | refine cond rfl (fun h0 => ?_) (fun h0 => ?_)
  · refine seq (region (cons (opv (Ev.assign (.c (v := I 201) rfl)) ?_)))
    refine nil (pN (ret (pR (done rfl (.tmp rfl .nil) (retE ?_)))))
    have p0 : nameB (l.ms.getD i.toNat eMeterConf.zero).name = false := by simpa using h0
    unfold meterE
    rw [if_pos p0]
    rfl
  · refine skip (pN (seq (seq (region (cons (opv (Ev.load (xv := c) ty28 (.t rfl) (ptsVar (by repeat first | exact mH | apply mT | apply mA) (Lens.id _))) ?_))))))
    refine cons (opv (Ev.fieldAddr (o := 0) (.t rfl) (by kernel_rfl)) ?_)
    refine cons (opv (Ev.ldv ty9 (.t rfl) SMeterConf.l_name) ?_)
    refine cons (callv en126 (.cons (.t rfl) (.cons (.t rfl) .nil)) (fun w I => rmeter_ix c l _ w (hc.keep0 I.keeps)) ?_)
    refine cons (opv (Ev.move (.t rfl)) (cons (opv (Ev.lss_i (.t rfl) (.t rfl)) ?_)))
    refine cons (opv (Ev.move (.t rfl)) (cons (opg rfl rfl (Ev.fieldAddr (o := 1) (.t rfl) (by kernel_rfl)) ?_)))
    refine cons (opg rfl rfl (Ev.ldv ty55 (.g rfl id) SMeterConf.l_bucket) ?_)
    refine cons (callg rfl rfl en158 (.cons (.g rfl id) .nil) (fun hg w I => rbucket_ok _ w) ?_)
    refine cons (opg rfl rfl (Ev.neq_i (.g rfl id) (.c (v := I 0) rfl)) ?_)
    refine cons (opv (Ev.pickO (.t rfl) (.c (v := .bool true) rfl) (fun {_} h => by cases h; rfl) ⟨_, rfl⟩ (by intro h1 h; first | (rw [h] <;> rfl) | (rw [h1, h] <;> rfl) | (rw [h, h1] <;> rfl) | simp_all)) ?_)
    refine nil (pN ?_)
    first | refine condD rfl (fun h1 => ?_) (fun h1 => ?_) | refine cond rfl (fun h1 => ?_) (fun h1 => ?_)
    · refine seq (region (cons (opv (Ev.assign (.c (v := I 2) rfl)) ?_)))
      refine nil (pN (ret (pR (done rfl (.tmp rfl .nil) (retE ?_)))))
      have n0 : ¬ (nameB (l.ms.getD i.toNat eMeterConf.zero).name = false) := by simpa using h0
      have p1 : (findV eqs (l.ms.getD i.toNat eMeterConf.zero).name (metersM l)).getD 0 < i ∨ ckB (l.ms.getD i.toNat eMeterConf.zero).bucket ≠ 0 := by rw [hix3]; simpa using h1
      unfold meterE
      rw [if_neg n0, if_pos p1]
      rfl
    · refine skip (pN (seq (region (cons (opv (Ev.assign (.c (v := I 0) rfl)) ?_)))))
      refine nil (pN (ret (done rfl (.tmp rfl .nil) (retE ?_))))
      have n0 : ¬ (nameB (l.ms.getD i.toNat eMeterConf.zero).name = false) := by simpa using h0
      have n1 : ¬ ((findV eqs (l.ms.getD i.toNat eMeterConf.zero).name (metersM l)).getD 0 < i ∨ ckB (l.ms.getD i.toNat eMeterConf.zero).bucket ≠ 0) := by rw [hix3]; simpa using h1
      unfold meterE
      rw [if_neg n0, if_neg n1]
      rfl

theorem en127 : Gx.Enters Tryz.prog 127 := Gx.Enters.mk' (by kernel_rfl)

theorem en159 : Gx.Enters Tryz.prog 159 := Gx.Enters.mk' (by kernel_rfl)

theorem rckmirror_ok (c : SConf) (l : CL) (i : Int) (w : World) (hc : ConfAt w c l) (hi : 0 ≤ i ∧ i < l.xs.length) (hn : l.Names) : Calls Tryz.prog 123 #[eConf.val c, I i] w (RetV w (I (mirrorE l (l.xs.getD i.toNat eMirrorConf.zero) i))) := by
  have hle := hc.xs.le
  have hs := hn.xs (l.xs.getD i.toNat eMirrorConf.zero) (getD_in _ _ _ (by omega))
  have hix := find_at eqs_iff (fun r => r.name) l.xs eMirrorConf.zero i.toNat (by omega)
  have hix3 := by
    have hix2 : (findV eqs (l.xs.getD i.toNat eMirrorConf.zero).name (mirrorsM l)).getD 0 = idxF (fun z => decide (z.name = (l.xs.getD i.toNat eMirrorConf.zero).name)) l.xs := by
      refine hix.trans (congrArg (fun p => idxF p l.xs) (funext fun z => eqs_dec _ _))
    exact hix2
  refine enter0 30 Tryz.func123 rfl rfl (Nat.le_of_ble_eq_true rfl) ?_
  refine seq (region (cons (box (E := eConf) (.t rfl) (fun b1 => ?_))))
  refine cons (opv (Ev.assign (.c (v := I 0) rfl)) ?_)
  refine nil (pN (seq (region (cons (opv (Ev.fieldAddr (o := 4) (.t rfl) (by kernel_rfl)) ?_)))))
  refine cons (opv (Ev.load (xv := c.mirrors) ty26 (.t rfl) (ptsVar (by repeat first | exact mH | apply mT | apply mA) SConf.l_mirrors)) ?_)
  refine cons (opv (Ev.move (.t rfl)) (cons (opv (Ev.indexAddr Tryz.underlying26 ty59 (.t rfl) (.t rfl) (fun w I => (hc.keep0 I.keeps).xs) (fun _ => by omega)) ?_)))
  refine cons (opv (Ev.loadS0 ty59 (.t rfl) (fun w I => (hc.keep0 I.keeps).xs) (fun _ => by omega)) ?_)
  refine cons (alloc z59 (fun b2 => ?_))
  refine cons (stv ty59 (Lens.id _) (.t rfl) (.t rfl) ?_)
  refine nil (pN (seq (seq (region (cons (opv (Ev.fieldAddr (o := 0) (.t rfl) (by kernel_rfl)) ?_))))))
  refine cons (opv (Ev.ldv ty9 (.t rfl) SMirrorConf.l_name) ?_)
  refine cons (callv en155 (.cons (.t rfl) .nil) (fun w I => rname_ok _ w hs) ?_)
  refine cons (opv (Ev.not (.t rfl)) ?_)
  refine nil (pN ?_)
  first | refine condD rfl (fun h0 => ?_) (fun h0 => ?_) | refine cond rfl (fun h0 => ?_) (fun h0 => ?_)
  · refine seq (region (cons (opv (Ev.assign (.c (v := I 201) rfl)) ?_)))
    refine nil (pN (ret (pR (done rfl (.tmp rfl .nil) (retE ?_)))))
    have p0 : nameB (l.xs.getD i.toNat eMirrorConf.zero).name = false := by simpa using h0
    unfold mirrorE
    rw [if_pos p0]
    rfl
  · refine skip (pN (seq (seq (region (cons (opv (Ev.load (xv := c) ty28 (.t rfl) (ptsVar (by repeat first | exact mH | apply mT | apply mA) (Lens.id _))) ?_))))))
    refine cons (opv (Ev.fieldAddr (o := 0) (.t rfl) (by kernel_rfl)) ?_)
    refine cons (opv (Ev.ldv ty9 (.t rfl) SMirrorConf.l_name) ?_)
    refine cons (callv en127 (.cons (.t rfl) (.cons (.t rfl) .nil)) (fun w I => rmirror_ix c l _ w (hc.keep0 I.keeps)) ?_)
    refine cons (opv (Ev.move (.t rfl)) (cons (opv (Ev.lss_i (.t rfl) (.t rfl)) ?_)))
    refine nil (pN ?_)
    first | refine condD rfl (fun h1 => ?_) (fun h1 => ?_) | refine cond rfl (fun h1 => ?_) (fun h1 => ?_)
    · refine seq (region (cons (opv (Ev.assign (.c (v := I 2) rfl)) ?_)))
      refine nil (pN (ret (pR (done rfl (.tmp rfl .nil) (retE ?_)))))
      have n0 : ¬ (nameB (l.xs.getD i.toNat eMirrorConf.zero).name = false) := by simpa using h0
      have p1 : (findV eqs (l.xs.getD i.toNat eMirrorConf.zero).name (mirrorsM l)).getD 0 < i := by rw [hix3]; simpa using h1
      unfold mirrorE
      rw [if_neg n0, if_pos p1]
      rfl
    · refine skip (pN (seq (seq (region (cons (opv (Ev.load (xv := c) ty28 (.t rfl) (ptsVar (by repeat first | exact mH | apply mT | apply mA) (Lens.id _))) ?_))))))
      refine cons (opv (Ev.fieldAddr (o := 1) (.t rfl) (by kernel_rfl)) ?_)
      refine cons (opv (Ev.ldv ty3 (.t rfl) SMirrorConf.l_out) ?_)
      refine cons (callv en124 (.cons (.t rfl) (.cons (.t rfl) .nil)) (fun w I => rport_ok c l _ w (hc.keep0 I.keeps)) ?_)
      refine cons (opv (Ev.not (.t rfl)) ?_)
      refine nil (pN ?_)
      first | refine condD rfl (fun h2 => ?_) (fun h2 => ?_) | refine cond rfl (fun h2 => ?_) (fun h2 => ?_)
      · refine seq (region (cons (opv (Ev.assign (.c (v := I 5) rfl)) ?_)))
        refine nil (pN (ret (pR (done rfl (.tmp rfl .nil) (retE ?_)))))
        have n0 : ¬ (nameB (l.xs.getD i.toNat eMirrorConf.zero).name = false) := by simpa using h0
        have n1 : ¬ ((findV eqs (l.xs.getD i.toNat eMirrorConf.zero).name (mirrorsM l)).getD 0 < i) := by rw [hix3]; simpa using h1
        have p2 : portB l (l.xs.getD i.toNat eMirrorConf.zero).out = false := by simpa using h2
        unfold mirrorE
        rw [if_neg n0, if_neg n1, if_pos p2]
        rfl
      · refine skip (pN (seq (seq (region (cons (opv (Ev.fieldAddr (o := 2) (.t rfl) (by kernel_rfl)) ?_))))))
        refine cons (opv (Ev.ldv ty3 (.t rfl) SMirrorConf.l_room) ?_)
        refine cons (callv en159 (.cons (.t rfl) .nil) (fun w I => rroom_ok _ w) ?_)
        refine cons (opv (Ev.not (.t rfl)) ?_)
        refine nil (pN ?_)
        first | refine condD rfl (fun h3 => ?_) (fun h3 => ?_) | refine cond rfl (fun h3 => ?_) (fun h3 => ?_)
        · refine seq (region (cons (opv (Ev.assign (.c (v := I 2) rfl)) ?_)))
          refine nil (pN (ret (pR (done rfl (.tmp rfl .nil) (retE ?_)))))
          have n0 : ¬ (nameB (l.xs.getD i.toNat eMirrorConf.zero).name = false) := by simpa using h0
          have n1 : ¬ ((findV eqs (l.xs.getD i.toNat eMirrorConf.zero).name (mirrorsM l)).getD 0 < i) := by rw [hix3]; simpa using h1
          have n2 : ¬ (portB l (l.xs.getD i.toNat eMirrorConf.zero).out = false) := by simpa using h2
          have p3 : roomB (l.xs.getD i.toNat eMirrorConf.zero).room = false := by simpa using h3
          unfold mirrorE
          rw [if_neg n0, if_neg n1, if_neg n2, if_pos p3]
          rfl
        · refine skip (pN (seq (region (cons (opv (Ev.assign (.c (v := I 0) rfl)) ?_)))))
          refine nil (pN (ret (done rfl (.tmp rfl .nil) (retE ?_))))
          have n0 : ¬ (nameB (l.xs.getD i.toNat eMirrorConf.zero).name = false) := by simpa using h0
          have n1 : ¬ ((findV eqs (l.xs.getD i.toNat eMirrorConf.zero).name (mirrorsM l)).getD 0 < i) := by rw [hix3]; simpa using h1
          have n2 : ¬ (portB l (l.xs.getD i.toNat eMirrorConf.zero).out = false) := by simpa using h2
          have n3 : ¬ (roomB (l.xs.getD i.toNat eMirrorConf.zero).room = false) := by simpa using h3
          unfold mirrorE
          rw [if_neg n0, if_neg n1, if_neg n2, if_neg n3]
          rfl

theorem en156 : Gx.Enters Tryz.prog 156 := Gx.Enters.mk' (by kernel_rfl)

theorem en157 : Gx.Enters Tryz.prog 157 := Gx.Enters.mk' (by kernel_rfl)

theorem rckrule_ok (c : SConf) (l : CL) (i : Int) (w : World) (hc : ConfAt w c l) (hi : 0 ≤ i ∧ i < l.us.length) (hn : l.Names) : Calls Tryz.prog 121 #[eConf.val c, I i] w (RetV w (I (ruleE l (l.us.getD i.toNat eRule.zero) i))) := by
  have hle := hc.us.le
  have hs := hn.us (l.us.getD i.toNat eRule.zero) (getD_in _ _ _ (by omega))
  have hix := find_at eqs_iff (fun r => r.name) l.us eRule.zero i.toNat (by omega)
  have hix3 := by
    have hix2 : (findV eqs (l.us.getD i.toNat eRule.zero).name (rulesM l)).getD 0 = idxF (fun z => decide (z.name = (l.us.getD i.toNat eRule.zero).name)) l.us := by
      refine hix.trans (congrArg (fun p => idxF p l.us) (funext fun z => eqs_dec _ _))
    exact hix2
  have hm_meter : inM (metersM l) (l.us.getD i.toNat eRule.zero).meter = decide (¬ idxF (fun z => decide (z.name = (l.us.getD i.toNat eRule.zero).meter)) l.ms < 0) := by
    unfold inM metersM
    rw [find_idx eqs_iff]
    simp only [eqs_dec]
  have hm_mirror : inM (mirrorsM l) (l.us.getD i.toNat eRule.zero).mirror = decide (¬ idxF (fun z => decide (z.name = (l.us.getD i.toNat eRule.zero).mirror)) l.xs < 0) := by
    unfold inM mirrorsM
    rw [find_idx eqs_iff]
    simp only [eqs_dec]
  refine enter0 75 Tryz.func121 rfl rfl (Nat.le_of_ble_eq_true rfl) ?_
  refine seq (region (cons (box (E := eConf) (.t rfl) (fun b1 => ?_))))
  refine cons (opv (Ev.assign (.c (v := I 0) rfl)) ?_)
  refine nil (pN (seq (region (cons (opv (Ev.fieldAddr (o := 2) (.t rfl) (by kernel_rfl)) ?_)))))
  refine cons (opv (Ev.load (xv := c.rules) ty24 (.t rfl) (ptsVar (by repeat first | exact mH | apply mT | apply mA) SConf.l_rules)) ?_)
  refine cons (opv (Ev.move (.t rfl)) (cons (opv (Ev.indexAddr Tryz.underlying24 ty76 (.t rfl) (.t rfl) (fun w I => (hc.keep0 I.keeps).us) (fun _ => by omega)) ?_)))
  refine cons (opv (Ev.loadS0 ty76 (.t rfl) (fun w I => (hc.keep0 I.keeps).us) (fun _ => by omega)) ?_)
  refine cons (alloc z76 (fun b2 => ?_))
  refine cons (stv ty76 (Lens.id _) (.t rfl) (.t rfl) ?_)
  refine nil (pN (seq (seq (region (cons (opv (Ev.fieldAddr (o := 0) (.t rfl) (by kernel_rfl)) ?_))))))
  refine cons (opv (Ev.ldv ty9 (.t rfl) SRule.l_name) ?_)
  refine cons (callv en155 (.cons (.t rfl) .nil) (fun w I => rname_ok _ w hs) ?_)
  refine cons (opv (Ev.not (.t rfl)) ?_)
  refine nil (pN ?_)
  first | refine condD rfl (fun h0 => ?_) (fun h0 => ?_) | refine cond rfl (fun h0 => ?_) (fun h0 => ?_)
  · refine seq (region (cons (opv (Ev.assign (.c (v := I 201) rfl)) ?_)))
    refine nil (pN (ret (pR (done rfl (.tmp rfl .nil) (retE ?_)))))
    have p0 : nameB (l.us.getD i.toNat eRule.zero).name = false := by simpa using h0
    unfold ruleE
    rw [if_pos p0]
    rfl
  · refine skip (pN (seq (seq (region (cons (opv (Ev.load (xv := c) ty28 (.t rfl) (ptsVar (by repeat first | exact mH | apply mT | apply mA) (Lens.id _))) ?_))))))
    refine cons (opv (Ev.fieldAddr (o := 0) (.t rfl) (by kernel_rfl)) ?_)
    refine cons (opv (Ev.ldv ty9 (.t rfl) SRule.l_name) ?_)
    refine cons (callv en156 (.cons (.t rfl) (.cons (.t rfl) .nil)) (fun w I => rrule_ix c l _ w (hc.keep0 I.keeps)) ?_)
    refine cons (opv (Ev.move (.t rfl)) (cons (opv (Ev.lss_i (.t rfl) (.t rfl)) ?_)))
    refine nil (pN ?_)
    first | refine condD rfl (fun h1 => ?_) (fun h1 => ?_) | refine cond rfl (fun h1 => ?_) (fun h1 => ?_)
    · refine seq (region (cons (opv (Ev.assign (.c (v := I 2) rfl)) ?_)))
      refine nil (pN (ret (pR (done rfl (.tmp rfl .nil) (retE ?_)))))
      have n0 : ¬ (nameB (l.us.getD i.toNat eRule.zero).name = false) := by simpa using h0
      have p1 : (findV eqs (l.us.getD i.toNat eRule.zero).name (rulesM l)).getD 0 < i := by rw [hix3]; simpa using h1
      unfold ruleE
      rw [if_neg n0, if_pos p1]
      rfl
    · refine skip (pN (seq (seq (region (cons (opv (Ev.fieldAddr (o := 1) (.t rfl) (by kernel_rfl)) ?_))))))
      refine cons (opv (Ev.ldv ty74 (.t rfl) SRule.l_match_) ?_)
      refine cons (callv en157 (.cons (.t rfl) .nil) (fun w I => rcheck_ok _ w) ?_)
      refine cons (opv (Ev.not (.t rfl)) ?_)
      refine nil (pN ?_)
      first | refine condD rfl (fun h2 => ?_) (fun h2 => ?_) | refine cond rfl (fun h2 => ?_) (fun h2 => ?_)
      · refine seq (region (cons (opv (Ev.assign (.c (v := I 190) rfl)) ?_)))
        refine nil (pN (ret (pR (done rfl (.tmp rfl .nil) (retE ?_)))))
        have n0 : ¬ (nameB (l.us.getD i.toNat eRule.zero).name = false) := by simpa using h0
        have n1 : ¬ ((findV eqs (l.us.getD i.toNat eRule.zero).name (rulesM l)).getD 0 < i) := by rw [hix3]; simpa using h1
        have p2 : okM (l.us.getD i.toNat eRule.zero).match_ = false := by simpa using h2
        unfold ruleE
        rw [if_neg n0, if_neg n1, if_pos p2]
        rfl
      · refine skip (pN (seq (seq (region (cons (opv (Ev.fieldAddr (o := 45) (.t rfl) (by kernel_rfl)) ?_))))))
        refine cons (opv (Ev.ldv ty3 (.t rfl) SRule.l_action) ?_)
        refine cons (opv (Ev.lss_i (.t rfl) (.c (v := I 1) rfl)) ?_)
        refine cons (opv (Ev.move (.t rfl)) (cons (opg rfl rfl (Ev.fieldAddr (o := 45) (.t rfl) (by kernel_rfl)) ?_)))
        refine cons (opg rfl rfl (Ev.ldv ty3 (.g rfl id) SRule.l_action) ?_)
        refine cons (opg rfl rfl (Ev.gtr_i (.g rfl id) (.c (v := I 4) rfl)) ?_)
        refine cons (opv (Ev.pickO (.t rfl) (.c (v := .bool true) rfl) (fun {_} h => by cases h; rfl) ⟨_, rfl⟩ (by intro h1 h; first | (rw [h] <;> rfl) | (rw [h1, h] <;> rfl) | (rw [h, h1] <;> rfl) | simp_all)) ?_)
        refine nil (pN ?_)
        first | refine condD rfl (fun h3 => ?_) (fun h3 => ?_) | refine cond rfl (fun h3 => ?_) (fun h3 => ?_)
        · refine seq (region (cons (opv (Ev.assign (.c (v := I 2) rfl)) ?_)))
          refine nil (pN (ret (pR (done rfl (.tmp rfl .nil) (retE ?_)))))
          have n0 : ¬ (nameB (l.us.getD i.toNat eRule.zero).name = false) := by simpa using h0
          have n1 : ¬ ((findV eqs (l.us.getD i.toNat eRule.zero).name (rulesM l)).getD 0 < i) := by rw [hix3]; simpa using h1
          have n2 : ¬ (okM (l.us.getD i.toNat eRule.zero).match_ = false) := by simpa using h2
          have p3 : (l.us.getD i.toNat eRule.zero).action < 1 ∨ 4 < (l.us.getD i.toNat eRule.zero).action := by simpa using h3
          unfold ruleE
          rw [if_neg n0, if_neg n1, if_neg n2, if_pos p3]
          rfl
        · refine skip (pN (seq (seq (region (cons (opv (Ev.fieldAddr (o := 45) (.t rfl) (by kernel_rfl)) ?_))))))
          refine cons (opv (Ev.ldv ty3 (.t rfl) SRule.l_action) ?_)
          refine cons (opv (Ev.eql_i (.t rfl) (.c (v := I 3) rfl)) ?_)
          refine cons (opv (Ev.move (.t rfl)) (cons (opg rfl rfl (Ev.load (xv := c) ty28 (.t rfl) (ptsVar (by repeat first | exact mH | apply mT | apply mA) (Lens.id _))) ?_)))
          refine cons (opg rfl rfl (Ev.fieldAddr (o := 46) (.t rfl) (by kernel_rfl)) ?_)
          refine cons (opg rfl rfl (Ev.ldv ty3 (.g rfl id) SRule.l_out) ?_)
          refine cons (callg rfl rfl en124 (.cons (.g rfl id) (.cons (.g rfl id) .nil)) (fun hg w I => rport_ok c l _ w (hc.keep0 I.keeps)) ?_)
          refine cons (opg rfl rfl (Ev.not (.g rfl id)) ?_)
          refine cons (opv (Ev.pickA (.t rfl) (fun {_} h => by cases h; rfl) ⟨_, rfl⟩ (by intro h1 h; first | (rw [h] <;> rfl) | (rw [h1, h] <;> rfl) | (rw [h, h1] <;> rfl) | simp_all) (.c (v := .bool false) rfl)) ?_)
          refine cons (opv (Ev.move (.t rfl)) (cons (opg rfl rfl (Ev.fieldAddr (o := 45) (.t rfl) (by kernel_rfl)) ?_)))
          refine cons (opg rfl rfl (Ev.ldv ty3 (.g rfl id) SRule.l_action) ?_)
          refine cons (opg rfl rfl (Ev.neq_i (.g rfl id) (.c (v := I 3) rfl)) ?_)
          refine cons (opg rfl rfl (Ev.move (.g rfl id)) ?_)
          refine cons (opg rfl rfl (Ev.fieldAddr (o := 46) (.t rfl) (by kernel_rfl)) ?_)
          refine cons (opg rfl rfl (Ev.ldv ty3 (.g rfl id) SRule.l_out) ?_)
          refine cons (opg rfl rfl (Ev.neq_i (.g rfl id) (.c (v := I 0) rfl)) ?_)
          refine cons (opg rfl rfl (Ev.pickA (.g rfl id) (fun {_} h => by cases h; rfl) ⟨_, rfl⟩ (by intro h1 h; first | (rw [h] <;> rfl) | (rw [h1, h] <;> rfl) | (rw [h, h1] <;> rfl) | simp_all) (.c (v := .bool false) rfl)) ?_)
          refine cons (opv (Ev.pickO (.t rfl) (.c (v := .bool true) rfl) (fun {_} h => by cases h; rfl) ⟨_, rfl⟩ (by intro h1 h; first | (rw [h] <;> rfl) | (rw [h1, h] <;> rfl) | (rw [h, h1] <;> rfl) | simp_all)) ?_)
          refine nil (pN ?_)
          first | refine condD rfl (fun h4 => ?_) (fun h4 => ?_) | refine cond rfl (fun h4 => ?_) (fun h4 => ?_)
          · refine seq (region (cons (opv (Ev.assign (.c (v := I 5) rfl)) ?_)))
            refine nil (pN (ret (pR (done rfl (.tmp rfl .nil) (retE ?_)))))
            have n0 : ¬ (nameB (l.us.getD i.toNat eRule.zero).name = false) := by simpa using h0
            have n1 : ¬ ((findV eqs (l.us.getD i.toNat eRule.zero).name (rulesM l)).getD 0 < i) := by rw [hix3]; simpa using h1
            have n2 : ¬ (okM (l.us.getD i.toNat eRule.zero).match_ = false) := by simpa using h2
            have n3 : ¬ ((l.us.getD i.toNat eRule.zero).action < 1 ∨ 4 < (l.us.getD i.toNat eRule.zero).action) := by simpa using h3
            have p4 : ruleO l (l.us.getD i.toNat eRule.zero) = true := by unfold ruleO; by_cases ea : (l.us.getD i.toNat eRule.zero).action = 3 <;> simp_all
            unfold ruleE
            rw [if_neg n0, if_neg n1, if_neg n2, if_neg n3, if_pos p4]
            rfl
          · refine skip (pN (seq (seq (region (cons (opv (Ev.fieldAddr (o := 47) (.t rfl) (by kernel_rfl)) ?_))))))
            refine cons (opv (Ev.ldv ty9 (.t rfl) SRule.l_meter) ?_)
            refine cons (opv (Ev.neq_s (.t rfl) (.c (v := (Go.Value.string (ByteArray.mk #[]))) rfl)) ?_)
            refine cons (opv (Ev.move (.t rfl)) (cons (opg rfl rfl (Ev.load (xv := c) ty28 (.t rfl) (ptsVar (by repeat first | exact mH | apply mT | apply mA) (Lens.id _))) ?_)))
            refine cons (opg rfl rfl (Ev.fieldAddr (o := 47) (.t rfl) (by kernel_rfl)) ?_)
            refine cons (opg rfl rfl (Ev.ldv ty9 (.g rfl id) SRule.l_meter) ?_)
            refine cons (callg rfl rfl en126 (.cons (.g rfl id) (.cons (.g rfl id) .nil)) (fun hg w I => rmeter_ix c l _ w (hc.keep0 I.keeps)) ?_)
            refine cons (opg rfl rfl (Ev.lss_i (.g rfl id) (.c (v := I 0) rfl)) ?_)
            refine cons (opv (Ev.pickA (.t rfl) (fun {_} h => by cases h; rfl) ⟨_, rfl⟩ (by intro h1 h; first | (rw [h] <;> rfl) | (rw [h1, h] <;> rfl) | (rw [h, h1] <;> rfl) | simp_all) (.c (v := .bool false) rfl)) ?_)
            refine cons (opv (Ev.move (.t rfl)) (cons (opg rfl rfl (Ev.fieldAddr (o := 48) (.t rfl) (by kernel_rfl)) ?_)))
            refine cons (opg rfl rfl (Ev.ldv ty9 (.g rfl id) SRule.l_mirror) ?_)
            refine cons (opg rfl rfl (Ev.neq_s (.g rfl id) (.c (v := (Go.Value.string (ByteArray.mk #[]))) rfl)) ?_)
            refine cons (opg rfl rfl (Ev.move (.g rfl id)) ?_)
            refine cons (opg rfl rfl (Ev.load (xv := c) ty28 (.t rfl) (ptsVar (by repeat first | exact mH | apply mT | apply mA) (Lens.id _))) ?_)
            refine cons (opg rfl rfl (Ev.fieldAddr (o := 48) (.t rfl) (by kernel_rfl)) ?_)
            refine cons (opg rfl rfl (Ev.ldv ty9 (.g rfl id) SRule.l_mirror) ?_)
            refine cons (callg rfl rfl en127 (.cons (.g rfl id) (.cons (.g rfl id) .nil)) (fun hg w I => rmirror_ix c l _ w (hc.keep0 I.keeps)) ?_)
            refine cons (opg rfl rfl (Ev.lss_i (.g rfl id) (.c (v := I 0) rfl)) ?_)
            refine cons (opg rfl rfl (Ev.pickA (.g rfl id) (fun {_} h => by cases h; rfl) ⟨_, rfl⟩ (by intro h1 h; first | (rw [h] <;> rfl) | (rw [h1, h] <;> rfl) | (rw [h, h1] <;> rfl) | simp_all) (.c (v := .bool false) rfl)) ?_)
            refine cons (opv (Ev.pickO (.t rfl) (.c (v := .bool true) rfl) (fun {_} h => by cases h; rfl) ⟨_, rfl⟩ (by intro h1 h; first | (rw [h] <;> rfl) | (rw [h1, h] <;> rfl) | (rw [h, h1] <;> rfl) | simp_all)) ?_)
            refine nil (pN ?_)
            first | refine condD rfl (fun h5 => ?_) (fun h5 => ?_) | refine cond rfl (fun h5 => ?_) (fun h5 => ?_)
            · refine seq (region (cons (opv (Ev.assign (.c (v := I 210) rfl)) ?_)))
              refine nil (pN (ret (pR (done rfl (.tmp rfl .nil) (retE ?_)))))
              have n0 : ¬ (nameB (l.us.getD i.toNat eRule.zero).name = false) := by simpa using h0
              have n1 : ¬ ((findV eqs (l.us.getD i.toNat eRule.zero).name (rulesM l)).getD 0 < i) := by rw [hix3]; simpa using h1
              have n2 : ¬ (okM (l.us.getD i.toNat eRule.zero).match_ = false) := by simpa using h2
              have n3 : ¬ ((l.us.getD i.toNat eRule.zero).action < 1 ∨ 4 < (l.us.getD i.toNat eRule.zero).action) := by simpa using h3
              have n4 : ¬ (ruleO l (l.us.getD i.toNat eRule.zero) = true) := by unfold ruleO; by_cases ea : (l.us.getD i.toNat eRule.zero).action = 3 <;> simp_all
              have p5 : ((l.us.getD i.toNat eRule.zero).meter ≠ ⟨#[]⟩ ∧ inM (metersM l) (l.us.getD i.toNat eRule.zero).meter = false) ∨ ((l.us.getD i.toNat eRule.zero).mirror ≠ ⟨#[]⟩ ∧ inM (mirrorsM l) (l.us.getD i.toNat eRule.zero).mirror = false) := by rw [hm_meter, hm_mirror]; simpa using h5
              unfold ruleE
              rw [if_neg n0, if_neg n1, if_neg n2, if_neg n3, if_neg n4, if_pos p5]
              rfl
            · refine skip (pN (seq (region (cons (opv (Ev.assign (.c (v := I 0) rfl)) ?_)))))
              refine nil (pN (ret (done rfl (.tmp rfl .nil) (retE ?_))))
              have n0 : ¬ (nameB (l.us.getD i.toNat eRule.zero).name = false) := by simpa using h0
              have n1 : ¬ ((findV eqs (l.us.getD i.toNat eRule.zero).name (rulesM l)).getD 0 < i) := by rw [hix3]; simpa using h1
              have n2 : ¬ (okM (l.us.getD i.toNat eRule.zero).match_ = false) := by simpa using h2
              have n3 : ¬ ((l.us.getD i.toNat eRule.zero).action < 1 ∨ 4 < (l.us.getD i.toNat eRule.zero).action) := by simpa using h3
              have n4 : ¬ (ruleO l (l.us.getD i.toNat eRule.zero) = true) := by unfold ruleO; by_cases ea : (l.us.getD i.toNat eRule.zero).action = 3 <;> simp_all
              have n5 : ¬ (((l.us.getD i.toNat eRule.zero).meter ≠ ⟨#[]⟩ ∧ inM (metersM l) (l.us.getD i.toNat eRule.zero).meter = false) ∨ ((l.us.getD i.toNat eRule.zero).mirror ≠ ⟨#[]⟩ ∧ inM (mirrorsM l) (l.us.getD i.toNat eRule.zero).mirror = false)) := by rw [hm_meter, hm_mirror]; simpa using h5
              unfold ruleE
              rw [if_neg n0, if_neg n1, if_neg n2, if_neg n3, if_neg n4, if_neg n5]
              rfl
end Go.Proofs.YtnoobdijbpmjkaaGreat
