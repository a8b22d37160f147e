/- Part. -/
import Derived.Test.YtmdkmclgfgaahaaGreatM4
set_option linter.unusedVariables false
set_option linter.unusedSimpArgs false
set_option linter.unusedSectionVars false
namespace Go.Proofs.YtmdkmclgfgaahaaGreat
open Go Go.Gx Go.Proofs.YtmdkmclgfgaahaaGreat.Tri
theorem rckport_ok (c : SConf) (l : CL) (i : Int) (w : World) (hc : ConfAt w c l) (hi : 0 ≤ i ∧ i < l.ps.length) : Calls Tryz.prog 69 #[eConf.val c, I i] w (RetV w (I (portE l.ps (l.ps.getD i.toNat iE.zero) i))) := by
  have hle := hc.ps.le
  refine en0 35 Tryz.func69 ?_
  refine sg (cons (box (E := eConf) (.t rfl) (fun b1 => ?_)))
  refine co (Ev.assign (.c (v := I 0) rfl)) ?_
  refine nP (seq (sg (co (fA 0 (.t rfl)) ?_)))
  refine co (Ev.ldx c.ports ty22 (.t rfl) SConf.l_ports) ?_
  refine mv rfl (co (Ev.indexAddr Tryz.underlying22 ty3 (.t rfl) (.t rfl) (fun w I => (hc.keep0 I.keeps).ps) (fun _ => by omega)) ?_)
  refine co (Ev.loadS0 ty3 (.t rfl) (fun w I => (hc.keep0 I.keeps).ps) (fun _ => by omega)) ?_
  refine co (Ev.lss_i (.t rfl) (.c (v := I 0) rfl)) ?_
  refine mv rfl (cg rfl rfl (fA 0 (.t rfl)) ?_)
  refine cg rfl rfl (Ev.ldx c.ports ty22 (.g rfl id) SConf.l_ports) ?_
  refine cg rfl rfl (Ev.move (.t rfl)) ?_
  refine cg rfl rfl (Ev.indexAddr Tryz.underlying22 ty3 (.g rfl id) (.g rfl id) (fun w I => (hc.keep0 I.keeps).ps) (fun _ => by first | omega | (rename_i hg; simp at hg; omega))) ?_
  refine cg rfl rfl (Ev.loadS0 ty3 (.g rfl id) (fun w I => (hc.keep0 I.keeps).ps) (fun _ => by first | omega | (rename_i hg; simp at hg; omega))) ?_
  refine cg rfl rfl (Ev.gtr_i (.g rfl id) (.c (v := I 255) rfl)) ?_
  refine co (Ev.pkO (.t rfl) rfl) ?_
  refine nP ?_
  first | refine condD rfl (fun h0 => ?_) (fun h0 => ?_) | refine cond rfl (fun h0 => ?_) (fun h0 => ?_)
  · refine sg (co (Ev.assign (.c (v := I 5) rfl)) ?_)
    refine nP (ret (pR (done rfl (.tmp rfl .nil) (retE ?_))))
    unfold portE; rw [if_pos (by simpa using h0)]; rfl
  · refine skip (pN (seq (seq (draw' (by kernel_rfl) ?_))))
    refine tk 0 rfl (Ev.move (.t rfl)) ?_
    refine tk 1 rfl (Ev.gtr_i (.t rfl) (.c (v := I 0) rfl)) ?_
    refine tk 2 rfl (Ev.move (.t rfl)) ?_
    refine tkg 3 rfl rfl rfl (fA 0 (.t rfl)) ?_
    refine tkg 4 rfl rfl rfl (Ev.ldx c.ports ty22 (.g rfl id) SConf.l_ports) ?_
    refine tkg 5 rfl rfl rfl (Ev.move (.t rfl)) ?_
    refine tkg 6 rfl rfl rfl (Ev.indexAddr Tryz.underlying22 ty3 (.g rfl id) (.g rfl id) (fun w I => (hc.keep0 I.keeps).ps) (fun _ => by first | omega | (rename_i hg; simp at hg; omega))) ?_
    refine tkg 7 rfl rfl rfl (Ev.loadS0 ty3 (.g rfl id) (fun w I => (hc.keep0 I.keeps).ps) (fun _ => by first | omega | (rename_i hg; simp at hg; omega))) ?_
    refine tkg 8 rfl rfl rfl (fA 0 (.t rfl)) ?_
    refine tkg 9 rfl rfl rfl (Ev.ldx c.ports ty22 (.g rfl id) SConf.l_ports) ?_
    refine tkg 10 rfl rfl rfl (Ev.move (.t rfl)) ?_
    refine tkg 11 rfl rfl rfl (Ev.sub_i (.g rfl id) (.c (v := I 1) rfl) (fun _ => by first | omega | (rename_i hg; simp at hg; omega))) ?_
    refine tkg 12 rfl rfl rfl (Ev.indexAddr Tryz.underlying22 ty3 (.g rfl id) (.g rfl id) (fun w I => (hc.keep0 I.keeps).ps) (fun _ => by first | omega | (rename_i hg; simp at hg; omega))) ?_
    refine tkg 13 rfl rfl rfl (Ev.loadS0 ty3 (.g rfl id) (fun w I => (hc.keep0 I.keeps).ps) (fun _ => by first | omega | (rename_i hg; simp at hg; omega))) ?_
    refine tkg 14 rfl rfl rfl (Ev.leq_i (.g rfl id) (.g rfl id)) ?_
    refine tk 15 rfl (Ev.pkA (.t rfl) rfl) ?_
    refine ovr (pN ?_)
    first | refine condD rfl (fun h1 => ?_) (fun h1 => ?_) | refine cond rfl (fun h1 => ?_) (fun h1 => ?_)
    · refine sg (co (Ev.assign (.c (v := I 2) rfl)) ?_)
      refine nP (ret (pR (done rfl (.tmp rfl .nil) (retE ?_))))
      have ez : (iE.zero : Int) = 0 := rfl
      unfold portE; rw [if_neg (by simpa using h0), if_pos (by simpa [ez] using h1)]; rfl
    · refine skip (pN (sg (co (Ev.assign (.c (v := I 0) rfl)) ?_)))
      refine nP (ret (done rfl (.tmp rfl .nil) (retE ?_)))
      have ez : (iE.zero : Int) = 0 := rfl
      unfold portE; rw [if_neg (by simpa using h0), if_neg (by simpa [ez] using h1)]; rfl
theorem en105 : Gx.Enters Tryz.prog 105 := Gx.Enters.mk' (by kernel_rfl)
theorem en106 : Gx.Enters Tryz.prog 106 := Gx.Enters.mk' (by kernel_rfl)
theorem en107 : Gx.Enters Tryz.prog 107 := Gx.Enters.mk' (by kernel_rfl)
theorem rckroute_ok (c : SConf) (l : CL) (i : Int) (w : World) (hc : ConfAt w c l) (hi : 0 ≤ i ∧ i < l.rs.length) : Calls Tryz.prog 70 #[eConf.val c, I i] w (RetV w (I (routeE l (l.rs.getD i.toNat eRoute.zero) i))) := by
  have hle := hc.rs.le
  have hix := find_at SPrefix.eqb_iff (fun r => r.to_) l.rs eRoute.zero i.toNat (by omega)
  have hix3 : (findV SPrefix.eqb (l.rs.getD i.toNat eRoute.zero).to_ (routesM l)).getD 0 = idxF (fun z => SPrefix.eqb z.to_ (l.rs.getD i.toNat eRoute.zero).to_) l.rs := hix
  refine en0 26 Tryz.func70 ?_
  refine sg (cons (box (E := eConf) (.t rfl) (fun b1 => ?_)))
  refine co (Ev.assign (.c (v := I 0) rfl)) ?_
  refine nP (sg (co (fA 1 (.t rfl)) ?_))
  refine co (Ev.ldx c.routes ty23 (.t rfl) SConf.l_routes) ?_
  refine mv rfl (co (Ev.indexAddr Tryz.underlying23 ty102 (.t rfl) (.t rfl) (fun w I => (hc.keep0 I.keeps).rs) (fun _ => by omega)) ?_)
  refine co (Ev.loadS0 ty102 (.t rfl) (fun w I => (hc.keep0 I.keeps).rs) (fun _ => by omega)) ?_
  refine cons (alloc z102 (fun b2 => ?_))
  refine cons (stv ty102 (Lens.id _) (.t rfl) (.t rfl) ?_)
  refine nP (seq (sg (co (fA 0 (.t rfl)) ?_)))
  refine co (Ev.ldv ty89 (.t rfl) SRoute.l_to_) ?_
  refine cons (callv en105 (.cons (.t rfl) .nil) (fun w I => r15check_ok _ w) ?_)
  refine co (Ev.neq_i (.t rfl) (.c (v := I 0) rfl)) ?_
  refine nP ?_
  first | refine condD rfl (fun h0 => ?_) (fun h0 => ?_) | refine cond rfl (fun h0 => ?_) (fun h0 => ?_)
  · refine sg (co (Ev.assign (.c (v := I 151) rfl)) ?_)
    refine nP (ret (pR (done rfl (.tmp rfl .nil) (retE ?_))))
    have p0 : checkP (l.rs.getD i.toNat eRoute.zero).to_ ≠ 0 := by simpa using h0
    unfold routeE
    rw [if_pos p0]
    rfl
  · refine skip (pN (seq (sg (co (Ev.ldx c ty28 (.t rfl) (Lens.id _)) ?_))))
    refine co (fA 18 (.t rfl)) ?_
    refine co (Ev.ldv ty3 (.t rfl) SRoute.l_out) ?_
    refine cons (callv en106 (.cons (.t rfl) (.cons (.t rfl) .nil)) (fun w I => rport_ok c l _ w (hc.keep0 I.keeps)) ?_)
    refine co (Ev.not (.t rfl)) ?_
    refine nP ?_
    first | refine condD rfl (fun h1 => ?_) (fun h1 => ?_) | refine cond rfl (fun h1 => ?_) (fun h1 => ?_)
    · refine sg (co (Ev.assign (.c (v := I 5) rfl)) ?_)
      refine nP (ret (pR (done rfl (.tmp rfl .nil) (retE ?_))))
      have n0 : ¬ (checkP (l.rs.getD i.toNat eRoute.zero).to_ ≠ 0) := by simpa using h0
      have p1 : portB l (l.rs.getD i.toNat eRoute.zero).out = false := by simpa using h1
      unfold routeE
      rw [if_neg n0, if_pos p1]
      rfl
    · refine skip (pN (seq (sg (co (Ev.ldx c ty28 (.t rfl) (Lens.id _)) ?_))))
      refine co (fA 0 (.t rfl)) ?_
      refine co (Ev.ldv ty89 (.t rfl) SRoute.l_to_) ?_
      refine cons (callv en107 (.cons (.t rfl) (.cons (.t rfl) .nil)) (fun w I => rroute_ix c l _ w (hc.keep0 I.keeps)) ?_)
      refine mv rfl (co (Ev.lss_i (.t rfl) (.t rfl)) ?_)
      refine nP ?_
      first | refine condD rfl (fun h2 => ?_) (fun h2 => ?_) | refine cond rfl (fun h2 => ?_) (fun h2 => ?_)
      · refine sg (co (Ev.assign (.c (v := I 2) rfl)) ?_)
        refine nP (ret (pR (done rfl (.tmp rfl .nil) (retE ?_))))
        have n0 : ¬ (checkP (l.rs.getD i.toNat eRoute.zero).to_ ≠ 0) := by simpa using h0
        have n1 : ¬ (portB l (l.rs.getD i.toNat eRoute.zero).out = false) := by simpa using h1
        have p2 : (findV SPrefix.eqb (l.rs.getD i.toNat eRoute.zero).to_ (routesM l)).getD 0 < i := by rw [hix3]; simpa using h2
        unfold routeE
        rw [if_neg n0, if_neg n1, if_pos p2]
        rfl
      · refine skip (pN (sg (co (Ev.assign (.c (v := I 0) rfl)) ?_)))
        refine nP (ret (done rfl (.tmp rfl .nil) (retE ?_)))
        have n0 : ¬ (checkP (l.rs.getD i.toNat eRoute.zero).to_ ≠ 0) := by simpa using h0
        have n1 : ¬ (portB l (l.rs.getD i.toNat eRoute.zero).out = false) := by simpa using h1
        have n2 : ¬ ((findV SPrefix.eqb (l.rs.getD i.toNat eRoute.zero).to_ (routesM l)).getD 0 < i) := by rw [hix3]; simpa using h2
        unfold routeE
        rw [if_neg n0, if_neg n1, if_neg n2]
        rfl
theorem en108 : Gx.Enters Tryz.prog 108 := Gx.Enters.mk' (by kernel_rfl)
theorem en110 : Gx.Enters Tryz.prog 110 := Gx.Enters.mk' (by kernel_rfl)
theorem en112 : Gx.Enters Tryz.prog 112 := Gx.Enters.mk' (by kernel_rfl)
theorem rckmeter_ok (c : SConf) (l : CL) (i : Int) (w : World) (hc : ConfAt w c l) (hi : 0 ≤ i ∧ i < l.ms.length) (hn : l.Names) : Calls Tryz.prog 72 #[eConf.val c, I i] w (RetV w (I (meterE l (l.ms.getD i.toNat eMeterConf.zero) i))) := by
  have hle := hc.ms.le
  have hs := hn.ms (l.ms.getD i.toNat eMeterConf.zero) (getD_in _ _ _ (by omega))
  have hix := find_at eqs_iff (fun r => r.name) l.ms eMeterConf.zero i.toNat (by omega)
  have hix3 := by
    have hix2 : (findV eqs (l.ms.getD i.toNat eMeterConf.zero).name (metersM l)).getD 0 = idxF (fun z => decide (z.name = (l.ms.getD i.toNat eMeterConf.zero).name)) l.ms := by
      refine hix.trans (congrArg (fun p => idxF p l.ms) (funext fun z => eqs_dec _ _))
    exact hix2
  refine en0 27 Tryz.func72 ?_
  refine sg (cons (box (E := eConf) (.t rfl) (fun b1 => ?_)))
  refine co (Ev.assign (.c (v := I 0) rfl)) ?_
  refine nP (sg (co (fA 3 (.t rfl)) ?_))
  refine co (Ev.ldx c.meters ty25 (.t rfl) SConf.l_meters) ?_
  refine mv rfl (co (Ev.indexAddr Tryz.underlying25 ty81 (.t rfl) (.t rfl) (fun w I => (hc.keep0 I.keeps).ms) (fun _ => by omega)) ?_)
  refine co (Ev.loadS0 ty81 (.t rfl) (fun w I => (hc.keep0 I.keeps).ms) (fun _ => by omega)) ?_
  refine cons (alloc z81 (fun b2 => ?_))
  refine cons (stv ty81 (Lens.id _) (.t rfl) (.t rfl) ?_)
  refine nP (seq (sg (co (fA 0 (.t rfl)) ?_)))
  refine co (Ev.ldv ty9 (.t rfl) SMeterConf.l_name) ?_
  refine cons (callv en108 (.cons (.t rfl) .nil) (fun w I => rname_ok _ w hs) ?_)
  refine co (Ev.not (.t rfl)) ?_
  refine nP ?_
  first | refine condD rfl (fun h0 => ?_) (fun h0 => ?_) | refine cond rfl (fun h0 => ?_) (fun h0 => ?_)
  · refine sg (co (Ev.assign (.c (v := I 201) rfl)) ?_)
    refine nP (ret (pR (done rfl (.tmp rfl .nil) (retE ?_))))
    have p0 : nameB (l.ms.getD i.toNat eMeterConf.zero).name = false := by simpa using h0
    unfold meterE
    rw [if_pos p0]
    rfl
  · refine skip (pN (seq (sg (co (Ev.ldx c ty28 (.t rfl) (Lens.id _)) ?_))))
    refine co (fA 0 (.t rfl)) ?_
    refine co (Ev.ldv ty9 (.t rfl) SMeterConf.l_name) ?_
    refine cons (callv en110 (.cons (.t rfl) (.cons (.t rfl) .nil)) (fun w I => rmeter_ix c l _ w (hc.keep0 I.keeps)) ?_)
    refine mv rfl (co (Ev.lss_i (.t rfl) (.t rfl)) ?_)
    refine mv rfl (cg rfl rfl (fA 1 (.t rfl)) ?_)
    refine cg rfl rfl (Ev.ldv ty79 (.g rfl id) SMeterConf.l_bucket) ?_
    refine cons (callg rfl rfl en112 (.cons (.g rfl id) .nil) (fun hg w I => rbucket_ok _ w) ?_)
    refine cg rfl rfl (Ev.neq_i (.g rfl id) (.c (v := I 0) rfl)) ?_
    refine co (Ev.pkO (.t rfl) rfl) ?_
    refine nP ?_
    first | refine condD rfl (fun h1 => ?_) (fun h1 => ?_) | refine cond rfl (fun h1 => ?_) (fun h1 => ?_)
    · refine sg (co (Ev.assign (.c (v := I 2) rfl)) ?_)
      refine nP (ret (pR (done rfl (.tmp rfl .nil) (retE ?_))))
      have n0 : ¬ (nameB (l.ms.getD i.toNat eMeterConf.zero).name = false) := by simpa using h0
      have p1 : (findV eqs (l.ms.getD i.toNat eMeterConf.zero).name (metersM l)).getD 0 < i ∨ ckB (l.ms.getD i.toNat eMeterConf.zero).bucket ≠ 0 := by rw [hix3]; simpa using h1
      unfold meterE
      rw [if_neg n0, if_pos p1]
      rfl
    · refine skip (pN (sg (co (Ev.assign (.c (v := I 0) rfl)) ?_)))
      refine nP (ret (done rfl (.tmp rfl .nil) (retE ?_)))
      have n0 : ¬ (nameB (l.ms.getD i.toNat eMeterConf.zero).name = false) := by simpa using h0
      have n1 : ¬ ((findV eqs (l.ms.getD i.toNat eMeterConf.zero).name (metersM l)).getD 0 < i ∨ ckB (l.ms.getD i.toNat eMeterConf.zero).bucket ≠ 0) := by rw [hix3]; simpa using h1
      unfold meterE
      rw [if_neg n0, if_neg n1]
      rfl
theorem en111 : Gx.Enters Tryz.prog 111 := Gx.Enters.mk' (by kernel_rfl)
theorem en113 : Gx.Enters Tryz.prog 113 := Gx.Enters.mk' (by kernel_rfl)
theorem rckmirror_ok (c : SConf) (l : CL) (i : Int) (w : World) (hc : ConfAt w c l) (hi : 0 ≤ i ∧ i < l.xs.length) (hn : l.Names) : Calls Tryz.prog 73 #[eConf.val c, I i] w (RetV w (I (mirrorE l (l.xs.getD i.toNat eMirrorConf.zero) i))) := by
  have hle := hc.xs.le
  have hs := hn.xs (l.xs.getD i.toNat eMirrorConf.zero) (getD_in _ _ _ (by omega))
  have hix := find_at eqs_iff (fun r => r.name) l.xs eMirrorConf.zero i.toNat (by omega)
  have hix3 := by
    have hix2 : (findV eqs (l.xs.getD i.toNat eMirrorConf.zero).name (mirrorsM l)).getD 0 = idxF (fun z => decide (z.name = (l.xs.getD i.toNat eMirrorConf.zero).name)) l.xs := by
      refine hix.trans (congrArg (fun p => idxF p l.xs) (funext fun z => eqs_dec _ _))
    exact hix2
  refine en0 30 Tryz.func73 ?_
  refine sg (cons (box (E := eConf) (.t rfl) (fun b1 => ?_)))
  refine co (Ev.assign (.c (v := I 0) rfl)) ?_
  refine nP (sg (co (fA 4 (.t rfl)) ?_))
  refine co (Ev.ldx c.mirrors ty26 (.t rfl) SConf.l_mirrors) ?_
  refine mv rfl (co (Ev.indexAddr Tryz.underlying26 ty83 (.t rfl) (.t rfl) (fun w I => (hc.keep0 I.keeps).xs) (fun _ => by omega)) ?_)
  refine co (Ev.loadS0 ty83 (.t rfl) (fun w I => (hc.keep0 I.keeps).xs) (fun _ => by omega)) ?_
  refine cons (alloc z83 (fun b2 => ?_))
  refine cons (stv ty83 (Lens.id _) (.t rfl) (.t rfl) ?_)
  refine nP (seq (sg (co (fA 0 (.t rfl)) ?_)))
  refine co (Ev.ldv ty9 (.t rfl) SMirrorConf.l_name) ?_
  refine cons (callv en108 (.cons (.t rfl) .nil) (fun w I => rname_ok _ w hs) ?_)
  refine co (Ev.not (.t rfl)) ?_
  refine nP ?_
  first | refine condD rfl (fun h0 => ?_) (fun h0 => ?_) | refine cond rfl (fun h0 => ?_) (fun h0 => ?_)
  · refine sg (co (Ev.assign (.c (v := I 201) rfl)) ?_)
    refine nP (ret (pR (done rfl (.tmp rfl .nil) (retE ?_))))
    have p0 : nameB (l.xs.getD i.toNat eMirrorConf.zero).name = false := by simpa using h0
    unfold mirrorE
    rw [if_pos p0]
    rfl
  · refine skip (pN (seq (sg (co (Ev.ldx c ty28 (.t rfl) (Lens.id _)) ?_))))
    refine co (fA 0 (.t rfl)) ?_
    refine co (Ev.ldv ty9 (.t rfl) SMirrorConf.l_name) ?_
    refine cons (callv en111 (.cons (.t rfl) (.cons (.t rfl) .nil)) (fun w I => rmirror_ix c l _ w (hc.keep0 I.keeps)) ?_)
    refine mv rfl (co (Ev.lss_i (.t rfl) (.t rfl)) ?_)
    refine nP ?_
    first | refine condD rfl (fun h1 => ?_) (fun h1 => ?_) | refine cond rfl (fun h1 => ?_) (fun h1 => ?_)
    · refine sg (co (Ev.assign (.c (v := I 2) rfl)) ?_)
      refine nP (ret (pR (done rfl (.tmp rfl .nil) (retE ?_))))
      have n0 : ¬ (nameB (l.xs.getD i.toNat eMirrorConf.zero).name = false) := by simpa using h0
      have p1 : (findV eqs (l.xs.getD i.toNat eMirrorConf.zero).name (mirrorsM l)).getD 0 < i := by rw [hix3]; simpa using h1
      unfold mirrorE
      rw [if_neg n0, if_pos p1]
      rfl
    · refine skip (pN (seq (sg (co (Ev.ldx c ty28 (.t rfl) (Lens.id _)) ?_))))
      refine co (fA 1 (.t rfl)) ?_
      refine co (Ev.ldv ty3 (.t rfl) SMirrorConf.l_out) ?_
      refine cons (callv en106 (.cons (.t rfl) (.cons (.t rfl) .nil)) (fun w I => rport_ok c l _ w (hc.keep0 I.keeps)) ?_)
      refine co (Ev.not (.t rfl)) ?_
      refine nP ?_
      first | refine condD rfl (fun h2 => ?_) (fun h2 => ?_) | refine cond rfl (fun h2 => ?_) (fun h2 => ?_)
      · refine sg (co (Ev.assign (.c (v := I 5) rfl)) ?_)
        refine nP (ret (pR (done rfl (.tmp rfl .nil) (retE ?_))))
        have n0 : ¬ (nameB (l.xs.getD i.toNat eMirrorConf.zero).name = false) := by simpa using h0
        have n1 : ¬ ((findV eqs (l.xs.getD i.toNat eMirrorConf.zero).name (mirrorsM l)).getD 0 < i) := by rw [hix3]; simpa using h1
        have p2 : portB l (l.xs.getD i.toNat eMirrorConf.zero).out = false := by simpa using h2
        unfold mirrorE
        rw [if_neg n0, if_neg n1, if_pos p2]
        rfl
      · refine skip (pN (seq (sg (co (fA 2 (.t rfl)) ?_))))
        refine co (Ev.ldv ty3 (.t rfl) SMirrorConf.l_room) ?_
        refine cons (callv en113 (.cons (.t rfl) .nil) (fun w I => rroom_ok _ w) ?_)
        refine co (Ev.not (.t rfl)) ?_
        refine nP ?_
        first | refine condD rfl (fun h3 => ?_) (fun h3 => ?_) | refine cond rfl (fun h3 => ?_) (fun h3 => ?_)
        · refine sg (co (Ev.assign (.c (v := I 2) rfl)) ?_)
          refine nP (ret (pR (done rfl (.tmp rfl .nil) (retE ?_))))
          have n0 : ¬ (nameB (l.xs.getD i.toNat eMirrorConf.zero).name = false) := by simpa using h0
          have n1 : ¬ ((findV eqs (l.xs.getD i.toNat eMirrorConf.zero).name (mirrorsM l)).getD 0 < i) := by rw [hix3]; simpa using h1
          have n2 : ¬ (portB l (l.xs.getD i.toNat eMirrorConf.zero).out = false) := by simpa using h2
          have p3 : roomB (l.xs.getD i.toNat eMirrorConf.zero).room = false := by simpa using h3
          unfold mirrorE
          rw [if_neg n0, if_neg n1, if_neg n2, if_pos p3]
          rfl
        · refine skip (pN (sg (co (Ev.assign (.c (v := I 0) rfl)) ?_)))
          refine nP (ret (done rfl (.tmp rfl .nil) (retE ?_)))
          have n0 : ¬ (nameB (l.xs.getD i.toNat eMirrorConf.zero).name = false) := by simpa using h0
          have n1 : ¬ ((findV eqs (l.xs.getD i.toNat eMirrorConf.zero).name (mirrorsM l)).getD 0 < i) := by rw [hix3]; simpa using h1
          have n2 : ¬ (portB l (l.xs.getD i.toNat eMirrorConf.zero).out = false) := by simpa using h2
          have n3 : ¬ (roomB (l.xs.getD i.toNat eMirrorConf.zero).room = false) := by simpa using h3
          unfold mirrorE
          rw [if_neg n0, if_neg n1, if_neg n2, if_neg n3]
          rfl
theorem en109 : Gx.Enters Tryz.prog 109 := Gx.Enters.mk' (by kernel_rfl)
set_option maxRecDepth 8000 in
theorem rckrule_ok (c : SConf) (l : CL) (i : Int) (w : World) (hc : ConfAt w c l) (hi : 0 ≤ i ∧ i < l.us.length) (hn : l.Names) : Calls Tryz.prog 71 #[eConf.val c, I i] w (RetV w (I (ruleE l (l.us.getD i.toNat eRule.zero) i))) := by
  have hle := hc.us.le
  have hs := hn.us (l.us.getD i.toNat eRule.zero) (getD_in _ _ _ (by omega))
  have hix := find_at eqs_iff (fun r => r.name) l.us eRule.zero i.toNat (by omega)
  have hix3 := by
    have hix2 : (findV eqs (l.us.getD i.toNat eRule.zero).name (rulesM l)).getD 0 = idxF (fun z => decide (z.name = (l.us.getD i.toNat eRule.zero).name)) l.us := by
      refine hix.trans (congrArg (fun p => idxF p l.us) (funext fun z => eqs_dec _ _))
    exact hix2
  have hm_meter : inM (metersM l) (l.us.getD i.toNat eRule.zero).meter = decide (¬ idxF (fun z => decide (z.name = (l.us.getD i.toNat eRule.zero).meter)) l.ms < 0) := by
    unfold inM metersM
    rw [find_idx eqs_iff]
    simp only [eqs_dec]
  have hm_mirror : inM (mirrorsM l) (l.us.getD i.toNat eRule.zero).mirror = decide (¬ idxF (fun z => decide (z.name = (l.us.getD i.toNat eRule.zero).mirror)) l.xs < 0) := by
    unfold inM mirrorsM
    rw [find_idx eqs_iff]
    simp only [eqs_dec]
  refine en0 75 Tryz.func71 ?_
  refine sg (cons (box (E := eConf) (.t rfl) (fun b1 => ?_)))
  refine co (Ev.assign (.c (v := I 0) rfl)) ?_
  refine nP (sg (co (fA 2 (.t rfl)) ?_))
  refine co (Ev.ldx c.rules ty24 (.t rfl) SConf.l_rules) ?_
  refine mv rfl (co (Ev.indexAddr Tryz.underlying24 ty93 (.t rfl) (.t rfl) (fun w I => (hc.keep0 I.keeps).us) (fun _ => by omega)) ?_)
  refine co (Ev.loadS0 ty93 (.t rfl) (fun w I => (hc.keep0 I.keeps).us) (fun _ => by omega)) ?_
  refine cons (alloc z93 (fun b2 => ?_))
  refine cons (stv ty93 (Lens.id _) (.t rfl) (.t rfl) ?_)
  refine nP (seq (sg (co (fA 0 (.t rfl)) ?_)))
  refine co (Ev.ldv ty9 (.t rfl) SRule.l_name) ?_
  refine cons (callv en108 (.cons (.t rfl) .nil) (fun w I => rname_ok _ w hs) ?_)
  refine co (Ev.not (.t rfl)) ?_
  refine nP ?_
  first | refine condD rfl (fun h0 => ?_) (fun h0 => ?_) | refine cond rfl (fun h0 => ?_) (fun h0 => ?_)
  · refine sg (co (Ev.assign (.c (v := I 201) rfl)) ?_)
    refine nP (ret (pR (done rfl (.tmp rfl .nil) (retE ?_))))
    have p0 : nameB (l.us.getD i.toNat eRule.zero).name = false := by simpa using h0
    unfold ruleE
    rw [if_pos p0]
    rfl
  · refine skip (pN (seq (sg (co (Ev.ldx c ty28 (.t rfl) (Lens.id _)) ?_))))
    refine co (fA 0 (.t rfl)) ?_
    refine co (Ev.ldv ty9 (.t rfl) SRule.l_name) ?_
    refine cons (callv en109 (.cons (.t rfl) (.cons (.t rfl) .nil)) (fun w I => rrule_ix c l _ w (hc.keep0 I.keeps)) ?_)
    refine mv rfl (co (Ev.lss_i (.t rfl) (.t rfl)) ?_)
    refine nP ?_
    first | refine condD rfl (fun h1 => ?_) (fun h1 => ?_) | refine cond rfl (fun h1 => ?_) (fun h1 => ?_)
    · refine sg (co (Ev.assign (.c (v := I 2) rfl)) ?_)
      refine nP (ret (pR (done rfl (.tmp rfl .nil) (retE ?_))))
      have n0 : ¬ (nameB (l.us.getD i.toNat eRule.zero).name = false) := by simpa using h0
      have p1 : (findV eqs (l.us.getD i.toNat eRule.zero).name (rulesM l)).getD 0 < i := by rw [hix3]; simpa using h1
      unfold ruleE
      rw [if_neg n0, if_pos p1]
      rfl
    · refine skip (pN (seq (sg (co (fA 1 (.t rfl)) ?_))))
      refine co (Ev.ldv ty91 (.t rfl) SRule.l_match_) ?_
      refine cons (callv en98 (.cons (.t rfl) .nil) (fun w I => rcheck_ok _ w) ?_)
      refine co (Ev.not (.t rfl)) ?_
      refine nP ?_
      first | refine condD rfl (fun h2 => ?_) (fun h2 => ?_) | refine cond rfl (fun h2 => ?_) (fun h2 => ?_)
      · refine sg (co (Ev.assign (.c (v := I 190) rfl)) ?_)
        refine nP (ret (pR (done rfl (.tmp rfl .nil) (retE ?_))))
        have n0 : ¬ (nameB (l.us.getD i.toNat eRule.zero).name = false) := by simpa using h0
        have n1 : ¬ ((findV eqs (l.us.getD i.toNat eRule.zero).name (rulesM l)).getD 0 < i) := by rw [hix3]; simpa using h1
        have p2 : okM (l.us.getD i.toNat eRule.zero).match_ = false := by simpa using h2
        unfold ruleE
        rw [if_neg n0, if_neg n1, if_pos p2]
        rfl
      · refine skip (pN (seq (sg (co (fA 45 (.t rfl)) ?_))))
        refine co (Ev.ldv ty3 (.t rfl) SRule.l_action) ?_
        refine co (Ev.lss_i (.t rfl) (.c (v := I 1) rfl)) ?_
        refine mv rfl (cg rfl rfl (fA 45 (.t rfl)) ?_)
        refine cg rfl rfl (Ev.ldv ty3 (.g rfl id) SRule.l_action) ?_
        refine cg rfl rfl (Ev.gtr_i (.g rfl id) (.c (v := I 4) rfl)) ?_
        refine co (Ev.pkO (.t rfl) rfl) ?_
        refine nP ?_
        first | refine condD rfl (fun h3 => ?_) (fun h3 => ?_) | refine cond rfl (fun h3 => ?_) (fun h3 => ?_)
        · refine sg (co (Ev.assign (.c (v := I 2) rfl)) ?_)
          refine nP (ret (pR (done rfl (.tmp rfl .nil) (retE ?_))))
          have n0 : ¬ (nameB (l.us.getD i.toNat eRule.zero).name = false) := by simpa using h0
          have n1 : ¬ ((findV eqs (l.us.getD i.toNat eRule.zero).name (rulesM l)).getD 0 < i) := by rw [hix3]; simpa using h1
          have n2 : ¬ (okM (l.us.getD i.toNat eRule.zero).match_ = false) := by simpa using h2
          have p3 : (l.us.getD i.toNat eRule.zero).action < 1 ∨ 4 < (l.us.getD i.toNat eRule.zero).action := by simpa using h3
          unfold ruleE
          rw [if_neg n0, if_neg n1, if_neg n2, if_pos p3]
          rfl
        · refine skip (pN (seq (sg (co (fA 45 (.t rfl)) ?_))))
          refine co (Ev.ldv ty3 (.t rfl) SRule.l_action) ?_
          refine co (Ev.eql_i (.t rfl) (.c (v := I 3) rfl)) ?_
          refine mv rfl (cg rfl rfl (Ev.ldx c ty28 (.t rfl) (Lens.id _)) ?_)
          refine cg rfl rfl (fA 46 (.t rfl)) ?_
          refine cg rfl rfl (Ev.ldv ty3 (.g rfl id) SRule.l_out) ?_
          refine cons (callg rfl rfl en106 (.cons (.g rfl id) (.cons (.g rfl id) .nil)) (fun hg w I => rport_ok c l _ w (hc.keep0 I.keeps)) ?_)
          refine cg rfl rfl (Ev.not (.g rfl id)) ?_
          refine co (Ev.pkA (.t rfl) rfl) ?_
          refine mv rfl (cg rfl rfl (fA 45 (.t rfl)) ?_)
          refine cg rfl rfl (Ev.ldv ty3 (.g rfl id) SRule.l_action) ?_
          refine cg rfl rfl (Ev.neq_i (.g rfl id) (.c (v := I 3) rfl)) ?_
          refine cg rfl rfl (Ev.move (.g rfl id)) ?_
          refine cg rfl rfl (fA 46 (.t rfl)) ?_
          refine cg rfl rfl (Ev.ldv ty3 (.g rfl id) SRule.l_out) ?_
          refine cg rfl rfl (Ev.neq_i (.g rfl id) (.c (v := I 0) rfl)) ?_
          refine cg rfl rfl (Ev.pkA (.g rfl id) rfl) ?_
          refine co (Ev.pkO (.t rfl) rfl) ?_
          refine nP ?_
          first | refine condD rfl (fun h4 => ?_) (fun h4 => ?_) | refine cond rfl (fun h4 => ?_) (fun h4 => ?_)
          · refine sg (co (Ev.assign (.c (v := I 5) rfl)) ?_)
            refine nP (ret (pR (done rfl (.tmp rfl .nil) (retE ?_))))
            have n0 : ¬ (nameB (l.us.getD i.toNat eRule.zero).name = false) := by simpa using h0
            have n1 : ¬ ((findV eqs (l.us.getD i.toNat eRule.zero).name (rulesM l)).getD 0 < i) := by rw [hix3]; simpa using h1
            have n2 : ¬ (okM (l.us.getD i.toNat eRule.zero).match_ = false) := by simpa using h2
            have n3 : ¬ ((l.us.getD i.toNat eRule.zero).action < 1 ∨ 4 < (l.us.getD i.toNat eRule.zero).action) := by simpa using h3
            have p4 : ruleO l (l.us.getD i.toNat eRule.zero) = true := by unfold ruleO; by_cases ea : (l.us.getD i.toNat eRule.zero).action = 3 <;> simp_all
            unfold ruleE
            rw [if_neg n0, if_neg n1, if_neg n2, if_neg n3, if_pos p4]
            rfl
          · refine skip (pN (seq (sg (co (fA 47 (.t rfl)) ?_))))
            refine co (Ev.ldv ty9 (.t rfl) SRule.l_meter) ?_
            refine co (Ev.neq_s (.t rfl) (.c (v := (Go.Value.string (ByteArray.mk #[]))) rfl)) ?_
            refine mv rfl (cg rfl rfl (Ev.ldx c ty28 (.t rfl) (Lens.id _)) ?_)
            refine cg rfl rfl (fA 47 (.t rfl)) ?_
            refine cg rfl rfl (Ev.ldv ty9 (.g rfl id) SRule.l_meter) ?_
            refine cons (callg rfl rfl en110 (.cons (.g rfl id) (.cons (.g rfl id) .nil)) (fun hg w I => rmeter_ix c l _ w (hc.keep0 I.keeps)) ?_)
            refine cg rfl rfl (Ev.lss_i (.g rfl id) (.c (v := I 0) rfl)) ?_
            refine co (Ev.pkA (.t rfl) rfl) ?_
            refine mv rfl (cg rfl rfl (fA 48 (.t rfl)) ?_)
            refine cg rfl rfl (Ev.ldv ty9 (.g rfl id) SRule.l_mirror) ?_
            refine cg rfl rfl (Ev.neq_s (.g rfl id) (.c (v := (Go.Value.string (ByteArray.mk #[]))) rfl)) ?_
            refine cg rfl rfl (Ev.move (.g rfl id)) ?_
            refine cg rfl rfl (Ev.ldx c ty28 (.t rfl) (Lens.id _)) ?_
            refine cg rfl rfl (fA 48 (.t rfl)) ?_
            refine cg rfl rfl (Ev.ldv ty9 (.g rfl id) SRule.l_mirror) ?_
            refine cons (callg rfl rfl en111 (.cons (.g rfl id) (.cons (.g rfl id) .nil)) (fun hg w I => rmirror_ix c l _ w (hc.keep0 I.keeps)) ?_)
            refine cg rfl rfl (Ev.lss_i (.g rfl id) (.c (v := I 0) rfl)) ?_
            refine cg rfl rfl (Ev.pkA (.g rfl id) rfl) ?_
            refine co (Ev.pkO (.t rfl) rfl) ?_
            refine nP ?_
            first | refine condD rfl (fun h5 => ?_) (fun h5 => ?_) | refine cond rfl (fun h5 => ?_) (fun h5 => ?_)
            · refine sg (co (Ev.assign (.c (v := I 210) rfl)) ?_)
              refine nP (ret (pR (done rfl (.tmp rfl .nil) (retE ?_))))
              have n0 : ¬ (nameB (l.us.getD i.toNat eRule.zero).name = false) := by simpa using h0
              have n1 : ¬ ((findV eqs (l.us.getD i.toNat eRule.zero).name (rulesM l)).getD 0 < i) := by rw [hix3]; simpa using h1
              have n2 : ¬ (okM (l.us.getD i.toNat eRule.zero).match_ = false) := by simpa using h2
              have n3 : ¬ ((l.us.getD i.toNat eRule.zero).action < 1 ∨ 4 < (l.us.getD i.toNat eRule.zero).action) := by simpa using h3
              have n4 : ¬ (ruleO l (l.us.getD i.toNat eRule.zero) = true) := by unfold ruleO; by_cases ea : (l.us.getD i.toNat eRule.zero).action = 3 <;> simp_all
              have p5 : ((l.us.getD i.toNat eRule.zero).meter ≠ ⟨#[]⟩ ∧ inM (metersM l) (l.us.getD i.toNat eRule.zero).meter = false) ∨ ((l.us.getD i.toNat eRule.zero).mirror ≠ ⟨#[]⟩ ∧ inM (mirrorsM l) (l.us.getD i.toNat eRule.zero).mirror = false) := by rw [hm_meter, hm_mirror]; simpa using h5
              unfold ruleE
              rw [if_neg n0, if_neg n1, if_neg n2, if_neg n3, if_neg n4, if_pos p5]
              rfl
            · refine skip (pN (sg (co (Ev.assign (.c (v := I 0) rfl)) ?_)))
              refine nP (ret (done rfl (.tmp rfl .nil) (retE ?_)))
              have n0 : ¬ (nameB (l.us.getD i.toNat eRule.zero).name = false) := by simpa using h0
              have n1 : ¬ ((findV eqs (l.us.getD i.toNat eRule.zero).name (rulesM l)).getD 0 < i) := by rw [hix3]; simpa using h1
              have n2 : ¬ (okM (l.us.getD i.toNat eRule.zero).match_ = false) := by simpa using h2
              have n3 : ¬ ((l.us.getD i.toNat eRule.zero).action < 1 ∨ 4 < (l.us.getD i.toNat eRule.zero).action) := by simpa using h3
              have n4 : ¬ (ruleO l (l.us.getD i.toNat eRule.zero) = true) := by unfold ruleO; by_cases ea : (l.us.getD i.toNat eRule.zero).action = 3 <;> simp_all
              have n5 : ¬ (((l.us.getD i.toNat eRule.zero).meter ≠ ⟨#[]⟩ ∧ inM (metersM l) (l.us.getD i.toNat eRule.zero).meter = false) ∨ ((l.us.getD i.toNat eRule.zero).mirror ≠ ⟨#[]⟩ ∧ inM (mirrorsM l) (l.us.getD i.toNat eRule.zero).mirror = false)) := by rw [hm_meter, hm_mirror]; simpa using h5
              unfold ruleE
              rw [if_neg n0, if_neg n1, if_neg n2, if_neg n3, if_neg n4, if_neg n5]
              rfl
end Go.Proofs.YtmdkmclgfgaahaaGreat
namespace Go.Proofs.YtmdkmclgfgaahaaGreat
open Go Go.Gx Go.Proofs.YtmdkmclgfgaahaaGreat.Tri
def szK (l : CL) (k : Nat) : Nat := [l.ps.length, l.rs.length, l.us.length, l.ms.length, l.xs.length].getD k 0
def limK (k : Nat) : Nat := [256, 1024, 256, 64, 16].getD k 0
def thingE (l : CL) (k i : Nat) : Int := if k = 0 then portE l.ps (l.ps.getD i iE.zero) i else if k = 1 then routeE l (l.rs.getD i eRoute.zero) i else if k = 2 then ruleE l (l.us.getD i eRule.zero) i else if k = 3 then meterE l (l.ms.getD i eMeterConf.zero) i else mirrorE l (l.xs.getD i eMirrorConf.zero) i
def baseK (l : CL) : Nat → Int
  | 0 => 0
  | k + 1 => baseK l k + (szK l k : Int)
def kindsF (l : CL) : Nat → List SFault
  | 0 => []
  | k + 1 => kindsF l k ++ listG (thingE l k) (baseK l k) (szK l k) (limK k)
theorem kindsF_all (l : CL) : kindsF l 5 = thingsF l := rfl
theorem baseK_all (l : CL) : baseK l 5 = 0 + (l.ps.length : Int) + l.rs.length + l.us.length + l.ms.length + l.xs.length := rfl
theorem baseK_nn (l : CL) : ∀ k, 0 ≤ baseK l k
  | 0 => Int.le_refl _
  | k + 1 => by have := baseK_nn l k; unfold baseK; omega
theorem baseK_le {l : CL} {n : Nat} (h : l.n ≤ n) : ∀ k, k ≤ 5 → baseK l k ≤ n := by
  intro k hk
  have h5 : baseK l 5 ≤ n := by rw [baseK_all]; unfold CL.n at h; omega
  have a4 : baseK l 5 = baseK l 4 + (szK l 4 : Int) := rfl
  have a3 : baseK l 4 = baseK l 3 + (szK l 3 : Int) := rfl
  have a2 : baseK l 3 = baseK l 2 + (szK l 2 : Int) := rfl
  have a1 : baseK l 2 = baseK l 1 + (szK l 1 : Int) := rfl
  have a0 : baseK l 1 = baseK l 0 + (szK l 0 : Int) := rfl
  have hk2 : k = 0 ∨ k = 1 ∨ k = 2 ∨ k = 3 ∨ k = 4 ∨ k = 5 := by omega
  rcases hk2 with rfl | rfl | rfl | rfl | rfl | rfl <;> omega
theorem lim_le : ∀ k, k < 5 → limK k ≤ 1024 := by
  have : ∀ q : Fin 5, limK q.val ≤ 1024 := by decide
  exact fun k hk => this ⟨k, hk⟩
theorem kindsF_len (l : CL) : ∀ k, k ≤ 5 → (kindsF l k).length ≤ k * 1025
  | 0, _ => by simp [kindsF]
  | k + 1, h => by
    have ih := kindsF_len l k (by omega)
    have hg := listG_len (thingE l k) (baseK l k) (szK l k) (limK k)
    have hl : limK k ≤ 1024 := by
      have : ∀ q : Fin 5, limK q.val ≤ 1024 := by decide
      exact this ⟨k, by omega⟩
    unfold kindsF
    rw [List.length_append]
    omega
theorem sz_vec (l : CL) (k : Nat) (hk : k < 5) : (#v[(l.ps.length : Int), l.rs.length, l.us.length, l.ms.length, l.xs.length] : Vector Int 5)[k] = (szK l k : Int) := by
  have h : k = 0 ∨ k = 1 ∨ k = 2 ∨ k = 3 ∨ k = 4 := by omega
  rcases h with rfl | rfl | rfl | rfl | rfl <;> rfl
theorem lim_vec (k : Nat) (hk : k < 5) : (#v[(256 : Int), 1024, 256, 64, 16] : Vector Int 5)[k] = (limK k : Int) := by
  have h : k = 0 ∨ k = 1 ∨ k = 2 ∨ k = 3 ∨ k = 4 := by omega
  rcases h with rfl | rfl | rfl | rfl | rfl <;> rfl
theorem en69 : Gx.Enters Tryz.prog 69 := Gx.Enters.mk' (by kernel_rfl)
theorem en70 : Gx.Enters Tryz.prog 70 := Gx.Enters.mk' (by kernel_rfl)
theorem en71 : Gx.Enters Tryz.prog 71 := Gx.Enters.mk' (by kernel_rfl)
theorem en72 : Gx.Enters Tryz.prog 72 := Gx.Enters.mk' (by kernel_rfl)
theorem en73 : Gx.Enters Tryz.prog 73 := Gx.Enters.mk' (by kernel_rfl)
theorem rthing_ok (c : SConf) (l : CL) (k : Nat) (i : Int) (w : World) (hc : ConfAt w c l) (hn : l.Names) (hk : k < 5) (hi : 0 ≤ i ∧ i < szK l k) : Calls Tryz.prog 37 #[eConf.val c, I (k : Int), I i] w (RetV w (I (thingE l k i.toNat))) := by
  refine en0 31 Tryz.func37 ?_
  refine sg (cons (box (E := eConf) (.t rfl) (fun b1 => ?_)))
  refine co (Ev.assign (.c (v := I 0) rfl)) ?_
  refine nP (seq (sg (mv rfl (nP (block (sg (co (Ev.eql_i (.t rfl) (.c (v := I 0) rfl)) ?_)))))))
  refine asn rfl (nP ?_)
  first | refine condD rfl (fun h0 => ?_) (fun h0 => ?_) | refine cond rfl (fun h0 => ?_) (fun h0 => ?_)
  · try simp only [Gx.nb] at h0
    refine seq ?_
    obtain rfl : k = 0 := by omega
    refine region (co (Ev.ldx c ty28 (.t rfl) (Lens.id _)) ?_)
    refine mv rfl (cons (callv en69 (.cons (.t rfl) (.cons (.t rfl) .nil)) (fun w I => rckport_ok c l _ w (hc.keep0 I.keeps) hi) ?_))
    refine asn rfl (nP (ret (bR (pR (done rfl (.tmp rfl .nil) (retE ?_))))))
    have ei : ((i.toNat : Nat) : Int) = i := by omega
    unfold thingE
    rw [ei]
    first
      | (rw [if_pos (by omega)]; rfl)
      | (rw [if_neg (by omega), if_pos (by omega)]; rfl)
      | (rw [if_neg (by omega), if_neg (by omega), if_pos (by omega)]; rfl)
      | (rw [if_neg (by omega), if_neg (by omega), if_neg (by omega), if_pos (by omega)]; rfl)
      | (rw [if_neg (by omega), if_neg (by omega), if_neg (by omega), if_neg (by omega)]; rfl)
  · try simp only [Gx.nb] at h0
    refine sg (co (Ev.eql_i (.t rfl) (.c (v := I 1) rfl)) ?_)
    refine asn rfl (nP ?_)
    first | refine condD rfl (fun h1 => ?_) (fun h1 => ?_) | refine cond rfl (fun h1 => ?_) (fun h1 => ?_)
    · try simp only [Gx.nb] at h1
      refine seq ?_
      obtain rfl : k = 1 := by omega
      refine region (co (Ev.ldx c ty28 (.t rfl) (Lens.id _)) ?_)
      refine mv rfl (cons (callv en70 (.cons (.t rfl) (.cons (.t rfl) .nil)) (fun w I => rckroute_ok c l _ w (hc.keep0 I.keeps) hi) ?_))
      refine asn rfl (nP (ret (bR (pR (done rfl (.tmp rfl .nil) (retE ?_))))))
      have ei : ((i.toNat : Nat) : Int) = i := by omega
      unfold thingE
      rw [ei]
      first
        | (rw [if_pos (by omega)]; rfl)
        | (rw [if_neg (by omega), if_pos (by omega)]; rfl)
        | (rw [if_neg (by omega), if_neg (by omega), if_pos (by omega)]; rfl)
        | (rw [if_neg (by omega), if_neg (by omega), if_neg (by omega), if_pos (by omega)]; rfl)
        | (rw [if_neg (by omega), if_neg (by omega), if_neg (by omega), if_neg (by omega)]; rfl)
    · try simp only [Gx.nb] at h1
      refine sg (co (Ev.eql_i (.t rfl) (.c (v := I 2) rfl)) ?_)
      refine asn rfl (nP ?_)
      first | refine condD rfl (fun h2 => ?_) (fun h2 => ?_) | refine cond rfl (fun h2 => ?_) (fun h2 => ?_)
      · try simp only [Gx.nb] at h2
        refine seq ?_
        obtain rfl : k = 2 := by omega
        refine region (co (Ev.ldx c ty28 (.t rfl) (Lens.id _)) ?_)
        refine mv rfl (cons (callv en71 (.cons (.t rfl) (.cons (.t rfl) .nil)) (fun w I => rckrule_ok c l _ w (hc.keep0 I.keeps) hi hn) ?_))
        refine asn rfl (nP (ret (bR (pR (done rfl (.tmp rfl .nil) (retE ?_))))))
        have ei : ((i.toNat : Nat) : Int) = i := by omega
        unfold thingE
        rw [ei]
        first
          | (rw [if_pos (by omega)]; rfl)
          | (rw [if_neg (by omega), if_pos (by omega)]; rfl)
          | (rw [if_neg (by omega), if_neg (by omega), if_pos (by omega)]; rfl)
          | (rw [if_neg (by omega), if_neg (by omega), if_neg (by omega), if_pos (by omega)]; rfl)
          | (rw [if_neg (by omega), if_neg (by omega), if_neg (by omega), if_neg (by omega)]; rfl)
      · try simp only [Gx.nb] at h2
        refine sg (co (Ev.eql_i (.t rfl) (.c (v := I 3) rfl)) ?_)
        refine asn rfl (nP ?_)
        first | refine condD rfl (fun h3 => ?_) (fun h3 => ?_) | refine cond rfl (fun h3 => ?_) (fun h3 => ?_)
        · try simp only [Gx.nb] at h3
          refine seq ?_
          obtain rfl : k = 3 := by omega
          refine region (co (Ev.ldx c ty28 (.t rfl) (Lens.id _)) ?_)
          refine mv rfl (cons (callv en72 (.cons (.t rfl) (.cons (.t rfl) .nil)) (fun w I => rckmeter_ok c l _ w (hc.keep0 I.keeps) hi hn) ?_))
          refine asn rfl (nP (ret (bR (pR (done rfl (.tmp rfl .nil) (retE ?_))))))
          have ei : ((i.toNat : Nat) : Int) = i := by omega
          unfold thingE
          rw [ei]
          first
            | (rw [if_pos (by omega)]; rfl)
            | (rw [if_neg (by omega), if_pos (by omega)]; rfl)
            | (rw [if_neg (by omega), if_neg (by omega), if_pos (by omega)]; rfl)
            | (rw [if_neg (by omega), if_neg (by omega), if_neg (by omega), if_pos (by omega)]; rfl)
            | (rw [if_neg (by omega), if_neg (by omega), if_neg (by omega), if_neg (by omega)]; rfl)
        · try simp only [Gx.nb] at h3
          refine skip (bN (pN (seq ?_)))
          obtain rfl : k = 4 := by omega
          refine region (co (Ev.ldx c ty28 (.t rfl) (Lens.id _)) ?_)
          refine mv rfl (cons (callv en73 (.cons (.t rfl) (.cons (.t rfl) .nil)) (fun w I => rckmirror_ok c l _ w (hc.keep0 I.keeps) hi hn) ?_))
          refine asn rfl (nP (ret (done rfl (.tmp rfl .nil) (retE ?_))))
          have ei : ((i.toNat : Nat) : Int) = i := by omega
          unfold thingE
          rw [ei]
          first
            | (rw [if_pos (by omega)]; rfl)
            | (rw [if_neg (by omega), if_pos (by omega)]; rfl)
            | (rw [if_neg (by omega), if_neg (by omega), if_pos (by omega)]; rfl)
            | (rw [if_neg (by omega), if_neg (by omega), if_neg (by omega), if_pos (by omega)]; rfl)
            | (rw [if_neg (by omega), if_neg (by omega), if_neg (by omega), if_neg (by omega)]; rfl)
theorem z112 : (Tryz.prog.info? 112).bind (·.zero) = some ((arrE 5 iE).val (arrE 5 iE).zero) := by kernel_rfl
theorem ty112 : TyOK Tryz.prog 112 (arrE 5 iE) := TyOK.mk' (by kernel_rfl) (by kernel_rfl)
theorem en37 : Gx.Enters Tryz.prog 37 := Gx.Enters.mk' (by kernel_rfl)
set_option maxRecDepth 8000 in
theorem rcheck_conf (c : SConf) (l : CL) (w : World) (hc : ConfAt w c l) (hn : l.Names) (hz : l.n ≤ 4611686018427387904) : Calls Tryz.prog 21 #[eConf.val c] w (RetO w eFault (checkF l c.default) 115) := by
  refine en0 99 Tryz.func21 ?_
  refine sg (cons (box (E := eConf) (.t rfl) (fun b1 => ?_)))
  refine co (Ev.assign (.c (v := (Go.Value.slice none 0 0)) rfl)) ?_
  refine nP (sg (co (fA 0 (.t rfl)) ?_))
  refine co (Ev.ldx c.ports ty22 (.t rfl) SConf.l_ports) ?_
  refine co (Ev.len Tryz.underlying22 (.t rfl) (fun w I => (hc.keep0 I.keeps).ps)) ?_
  refine co (fA 1 (.t rfl)) ?_
  refine co (Ev.ldx c.routes ty23 (.t rfl) SConf.l_routes) ?_
  refine co (Ev.len Tryz.underlying23 (.t rfl) (fun w I => (hc.keep0 I.keeps).rs)) ?_
  refine co (fA 2 (.t rfl)) ?_
  refine co (Ev.ldx c.rules ty24 (.t rfl) SConf.l_rules) ?_
  refine co (Ev.len Tryz.underlying24 (.t rfl) (fun w I => (hc.keep0 I.keeps).us)) ?_
  refine co (fA 3 (.t rfl)) ?_
  refine co (Ev.ldx c.meters ty25 (.t rfl) SConf.l_meters) ?_
  refine co (Ev.len Tryz.underlying25 (.t rfl) (fun w I => (hc.keep0 I.keeps).ms)) ?_
  refine co (fA 4 (.t rfl)) ?_
  refine co (Ev.ldx c.mirrors ty26 (.t rfl) SConf.l_mirrors) ?_
  refine co (Ev.len Tryz.underlying26 (.t rfl) (fun w I => (hc.keep0 I.keeps).xs)) ?_
  refine co (Ev.buildA z112 Tryz.underlying112 ty3 (.cons (.t rfl) (.cons (.t rfl) (.cons (.t rfl) (.cons (.t rfl) (.cons (.t rfl) .nil))))) (Fills.cons (lArr iE 0 (by decide)) rfl (Fills.cons (lArr iE 1 (by decide)) rfl (Fills.cons (lArr iE 2 (by decide)) rfl (Fills.cons (lArr iE 3 (by decide)) rfl (Fills.cons (lArr iE 4 (by decide)) rfl Fills.nil)))))) ?_
  refine cons (alloc z112 (fun b2 => ?_))
  refine cons (stv ty112 (Lens.id _) (.t rfl) (.t rfl) ?_)
  refine nP (sg (co (Ev.buildA z112 Tryz.underlying112 ty3 (.cons (.c (v := I 256) rfl) (.cons (.c (v := I 1024) rfl) (.cons (.c (v := I 256) rfl) (.cons (.c (v := I 64) rfl) (.cons (.c (v := I 16) rfl) .nil))))) (Fills.cons (lArr iE 0 (by decide)) rfl (Fills.cons (lArr iE 1 (by decide)) rfl (Fills.cons (lArr iE 2 (by decide)) rfl (Fills.cons (lArr iE 3 (by decide)) rfl (Fills.cons (lArr iE 4 (by decide)) rfl Fills.nil)))))) ?_))
  refine cons (alloc z112 (fun b3 => ?_))
  refine cons (stv ty112 (Lens.id _) (.t rfl) (.t rfl) ?_)
  refine nP (seq (takeNil eFault 115 ?_))
  refine region (co (Ev.assign (.c (v := (Go.Value.slice none 0 0)) rfl)) ?_)
  refine takeNil eFault 115 ?_
  refine nP (sg (co (Ev.assign (.c (v := I 0) rfl)) ?_))
  refine nP (seq (sg (co (Ev.assign (.c (v := I 0) rfl)) ?_)))
  refine nP (block (lp (X := Nat × OV) (fun x : Nat × OV => (x.1 ≤ 5)) (fun x : Nat × OV => [dz, (1, true, .pointer (some ⟨b1, 0, none⟩)), (3, true, .pointer (some ⟨b2, 0, none⟩)), (4, true, .pointer (some ⟨b3, 0, none⟩)), (5, true, x.2.v), (6, true, I (baseK l x.1)), (7, true, I (x.1 : Int))]) (fun x : Nat × OV => [OwnS x.2.v eFault (kindsF l x.1) 115, Var b3 (arrE 5 iE) (#v[(256 : Int), 1024, 256, 64, 16] : Vector Int 5) 112, Var b2 (arrE 5 iE) (#v[(l.ps.length : Int), l.rs.length, l.us.length, l.ms.length, l.xs.length] : Vector Int 5) 112, Var b1 eConf c 28]) (fun x : Nat × OV => 5 - x.1) (0, nilSl) ?_ (fun x hx => ?_)))
  · omega
  obtain ⟨k, q⟩ := x
  have hk : k ≤ 5 := hx
  clear hx
  show Sat _ _ [dz, (1, true, .pointer (some ⟨b1, 0, none⟩)), (3, true, .pointer (some ⟨b2, 0, none⟩)), (4, true, .pointer (some ⟨b3, 0, none⟩)), (5, true, q.v), (6, true, I (baseK l k)), (7, true, I (k : Int))] [OwnS q.v eFault (kindsF l k) 115, Var b3 (arrE 5 iE) (#v[(256 : Int), 1024, 256, 64, 16] : Vector Int 5) 112, Var b2 (arrE 5 iE) (#v[(l.ps.length : Int), l.rs.length, l.us.length, l.ms.length, l.xs.length] : Vector Int 5) 112, Var b1 eConf c 28]
  have hb0 := baseK_nn l k
  have hbl := baseK_le hz k hk
  refine seq (sg (co (Ev.to (v' := I (k : Int)) (Ev.move (.t rfl)) (rfl)) ?_))
  refine co (Ev.lss_i (.t rfl) (.c (v := I 5) rfl)) ?_
  refine nP ?_
  first | refine condD rfl (fun h0 => ?_) (fun h0 => ?_) | refine cond rfl (fun h0 => ?_) (fun h0 => ?_)
  · try simp only [Gx.nb] at h0
    have hkk : k < 5 := by omega
    have hlm : limK k ≤ 1024 := lim_le k hkk
    have hb1 := baseK_le hz (k + 1) (by omega)
    have hb2 : baseK l (k + 1) = baseK l k + (szK l k : Int) := rfl
    refine skip (pN (seq (block (seq (sg (co (Ev.assign (.c (v := I 0) rfl)) ?_))))))
    refine nP (block (lp (X := Int × OV) (fun x : Int × OV => (0 ≤ x.1 ∧ x.1 ≤ szK l k ∧ x.1 ≤ limK k)) (fun x : Int × OV => [dz, (1, true, .pointer (some ⟨b1, 0, none⟩)), (3, true, .pointer (some ⟨b2, 0, none⟩)), (4, true, .pointer (some ⟨b3, 0, none⟩)), (5, true, x.2.v), (6, true, I (baseK l k)), (7, true, I (k : Int)), (8, true, I x.1)]) (fun x : Int × OV => [OwnS x.2.v eFault (kindsF l k ++ faultsUp (thingE l k) (baseK l k) x.1.toNat) 115, Var b3 (arrE 5 iE) (#v[(256 : Int), 1024, 256, 64, 16] : Vector Int 5) 112, Var b2 (arrE 5 iE) (#v[(l.ps.length : Int), l.rs.length, l.us.length, l.ms.length, l.xs.length] : Vector Int 5) 112, Var b1 eConf c 28]) (fun x : Int × OV => ((szK l k : Int) - x.1).toNat) (0, q) ?_ (fun x hx => ?_) (hL := (by simp only [show (0 : Int).toNat = 0 from rfl, faultsUp, List.append_nil]; repeat first | exact sR | exact sN | apply sC | apply sS | apply sA))))
    · omega
    obtain ⟨i, q1⟩ := x
    have hi : 0 ≤ i ∧ i ≤ szK l k ∧ i ≤ limK k := hx
    clear hx
    show Sat _ _ [dz, (1, true, .pointer (some ⟨b1, 0, none⟩)), (3, true, .pointer (some ⟨b2, 0, none⟩)), (4, true, .pointer (some ⟨b3, 0, none⟩)), (5, true, q1.v), (6, true, I (baseK l k)), (7, true, I (k : Int)), (8, true, I i)] [OwnS q1.v eFault (kindsF l k ++ faultsUp (thingE l k) (baseK l k) i.toNat) 115, Var b3 (arrE 5 iE) (#v[(256 : Int), 1024, 256, 64, 16] : Vector Int 5) 112, Var b2 (arrE 5 iE) (#v[(l.ps.length : Int), l.rs.length, l.us.length, l.ms.length, l.xs.length] : Vector Int 5) 112, Var b1 eConf c 28]
    refine seq (sg (mv rfl (mv rfl (co (Ev.indexAddrA0 Tryz.underlying112 ty3 (.t rfl) (.t rfl) (fun _ => by omega)) ?_))))
    refine co (Ev.to (v' := I (szK l k : Nat)) (Ev.ldv ty3 (.t rfl) (lArr (n := 5) iE _ (by omega))) (congrArg I (sz_vec l k hkk))) ?_
    refine co (Ev.lss_i (.t rfl) (.t rfl)) ?_
    refine mv rfl (cg rfl rfl (Ev.move (.t rfl)) ?_)
    refine cg rfl rfl (Ev.move (.t rfl)) ?_
    refine cg rfl rfl (Ev.indexAddrA0 Tryz.underlying112 ty3 (.t rfl) (.g rfl id) (fun _ => by first | omega | (rename_i hg; simp at hg; omega))) ?_
    refine cg rfl rfl (Ev.to (v' := I (limK k : Nat)) (Ev.ldv ty3 (.g rfl id) (lArr (n := 5) iE _ (by first | omega | (rename_i hg; simp at hg; omega)))) (congrArg I (lim_vec k hkk))) ?_
    refine cg rfl rfl (Ev.lss_i (.g rfl id) (.g rfl id)) ?_
    refine co (Ev.pkA (.t rfl) rfl) ?_
    refine nP ?_
    first | refine condD rfl (fun h1 => ?_) (fun h1 => ?_) | refine cond rfl (fun h1 => ?_) (fun h1 => ?_)
    · try simp only [Gx.nb] at h1
      refine skip (pN (seq (block (sg (co (Ev.ldx c ty28 (.t rfl) (Lens.id _)) ?_)))))
      refine mv rfl (mv rfl (cons (callv en37 (.cons (.t rfl) (.cons (.t rfl) (.cons (.t rfl) .nil))) (fun w I => rthing_ok c l k _ w (hc.keep0 I.keeps) hn hkk (by omega)) ?_)))
      refine asn rfl (nP (sg (mv rfl (co (Ev.neq_i (.t rfl) (.c (v := I 0) rfl)) ?_))))
      refine nP ?_
      first | refine condD rfl (fun h2 => ?_) (fun h2 => ?_) | refine cond rfl (fun h2 => ?_) (fun h2 => ?_)
      · try simp only [Gx.nb] at h2
        have hst := faultsUp_bad (e := thingE l k) (d := baseK l k) hi.1 h2
        refine region (mv rfl (mv rfl (mv rfl (mv rfl (co (Ev.add_i (.t rfl) (.t rfl) (fun _ => by omega)) ?_)))))
        refine co (Ev.buildS (fs := _) (places := [(0, 1), (1, 1)]) z115 rfl Tryz.underlying115 (by kernel_rfl) (.cons (.t rfl) (.cons (.t rfl) .nil)) (Fills.cons SFault.l_code rfl (Fills.cons SFault.l_at_ rfl Fills.nil))) ?_
        refine cons (buildSlice (E := eFault) Tryz.underlying65 ty115 z115 (.cons (.t rfl) .nil) rfl rfl (fun v4 => ?_))
        refine cons (app (E := eFault) Tryz.underlying65 ty115 zb115 zs115 (.t rfl) (.t rfl) (fun v5 => ?_) (hby := ⟨by (show _ ≤ 9223372036854775807); have h1l := kindsF_len l k (by omega); have h2l := faultsUp_len (thingE l k) (baseK l k) i.toNat; simp only [List.length_append, List.length_cons, List.length_nil]; omega, by have h1l := kindsF_len l k (by omega); have h2l := faultsUp_len (thingE l k) (baseK l k) i.toNat; simp only [List.length_append, List.length_cons, List.length_nil]; omega⟩))
        refine asn rfl (nil (bN (pN (region (mv rfl (co (Ev.add_i (.t rfl) (.c (v := I 1) rfl) (fun _ => by omega)) ?_))))))
        refine asn rfl (nP (nx (X := Int × OV) (i + 1, _) ?_ ?_ (hL := (by rw [hst]; (try rw [← List.append_assoc]); repeat first | exact sR | exact sN | apply sC | apply sS | apply sA))))
        · try dsimp only
          omega
        · try dsimp only
          omega
      · try simp only [Gx.nb] at h2
        have hst := faultsUp_ok (e := thingE l k) (d := baseK l k) hi.1 h2
        refine skip (bN (pN (region (mv rfl (co (Ev.add_i (.t rfl) (.c (v := I 1) rfl) (fun _ => by omega)) ?_)))))
        refine asn rfl (nP (nx (X := Int × OV) (i + 1, _) ?_ ?_ (hL := (by rw [hst]; (try rw [← List.append_assoc]); repeat first | exact sR | exact sN | apply sC | apply sS | apply sA))))
        · try dsimp only
          omega
        · try dsimp only
          omega
    · try simp only [Gx.nb] at h1
      refine exit (pX (pX (bX (pN (seq (seq ?_))))))
      have him : i.toNat = min (szK l k) (limK k) := by omega
      rw [him]
      refine draw' (by kernel_rfl) ?_
      refine tk 0 rfl (Ev.move (.t rfl)) ?_
      refine tk 1 rfl (Ev.indexAddrA0 Tryz.underlying112 ty3 (.t rfl) (.t rfl) (fun _ => by omega)) ?_
      refine tk 2 rfl (Ev.to (v' := I (szK l k : Nat)) (Ev.ldv ty3 (.t rfl) (lArr (n := 5) iE _ (by omega))) (congrArg I (sz_vec l k hkk))) ?_
      refine tk 3 rfl (Ev.move (.t rfl)) ?_
      refine tk 4 rfl (Ev.indexAddrA0 Tryz.underlying112 ty3 (.t rfl) (.t rfl) (fun _ => by omega)) ?_
      refine tk 5 rfl (Ev.to (v' := I (limK k : Nat)) (Ev.ldv ty3 (.t rfl) (lArr (n := 5) iE _ (by omega))) (congrArg I (lim_vec k hkk))) ?_
      refine tk 6 rfl (Ev.gtr_i (.t rfl) (.t rfl)) ?_
      refine ovr (pN ?_)
      first | refine condD rfl (fun h3 => ?_) (fun h3 => ?_) | refine cond rfl (fun h3 => ?_) (fun h3 => ?_)
      · try simp only [Gx.nb] at h3
        refine region (mv rfl (mv rfl (mv rfl (co (Ev.indexAddrA0 Tryz.underlying112 ty3 (.t rfl) (.t rfl) (fun _ => by omega)) ?_))))
        refine co (Ev.to (v' := I (limK k : Nat)) (Ev.ldv ty3 (.t rfl) (lArr (n := 5) iE _ (by omega))) (congrArg I (lim_vec k hkk))) ?_
        refine co (Ev.add_i (.t rfl) (.t rfl) (fun _ => by omega)) ?_
        refine co (Ev.buildS (fs := _) (places := [(0, 1), (1, 1)]) z115 rfl Tryz.underlying115 (by kernel_rfl) (.cons (.c (v := I 4) rfl) (.cons (.t rfl) .nil)) (Fills.cons SFault.l_code rfl (Fills.cons SFault.l_at_ rfl Fills.nil))) ?_
        refine cons (buildSlice (E := eFault) Tryz.underlying65 ty115 z115 (.cons (.t rfl) .nil) rfl rfl (fun v6 => ?_))
        refine cons (app (E := eFault) Tryz.underlying65 ty115 zb115 zs115 (.t rfl) (.t rfl) (fun v7 => ?_) (hby := ⟨by (show _ ≤ 9223372036854775807); have h1l := kindsF_len l k (by omega); have h2l := faultsUp_len (thingE l k) (baseK l k) (min (szK l k) (limK k)); simp only [List.length_append, List.length_cons, List.length_nil]; omega, by have h1l := kindsF_len l k (by omega); have h2l := faultsUp_len (thingE l k) (baseK l k) (min (szK l k) (limK k)); simp only [List.length_append, List.length_cons, List.length_nil]; omega⟩))
        refine asn rfl (nP (region (mv rfl (mv rfl (co (Ev.indexAddrA0 Tryz.underlying112 ty3 (.t rfl) (.t rfl) (fun _ => by omega)) ?_)))))
        refine co (Ev.to (v' := I (szK l k : Nat)) (Ev.ldv ty3 (.t rfl) (lArr (n := 5) iE _ (by omega))) (congrArg I (sz_vec l k hkk))) ?_
        refine co (Ev.add_i (.t rfl) (.t rfl) (fun _ => by omega)) ?_
        refine asn rfl (nil (bN (pN (region (mv rfl (co (Ev.add_i (.t rfl) (.c (v := I 1) rfl) (fun _ => by omega)) ?_))))))
        refine asn rfl (nP (nx (X := Nat × OV) (k + 1, _) ?_ ?_ (hL := (by rw [show kindsF l (k + 1) = kindsF l k ++ listG (thingE l k) (baseK l k) (szK l k) (limK k) from rfl]; unfold listG; (first | rw [if_pos (by omega), ← List.append_assoc] | rw [if_neg (by omega), List.append_nil]); repeat first | exact sR | exact sN | apply sC | apply sS | apply sA))))
        · try dsimp only
          omega
        · try dsimp only
          omega
      · try simp only [Gx.nb] at h3
        refine skip (pN (region (mv rfl (mv rfl (co (Ev.indexAddrA0 Tryz.underlying112 ty3 (.t rfl) (.t rfl) (fun _ => by omega)) ?_)))))
        refine co (Ev.to (v' := I (szK l k : Nat)) (Ev.ldv ty3 (.t rfl) (lArr (n := 5) iE _ (by omega))) (congrArg I (sz_vec l k hkk))) ?_
        refine co (Ev.add_i (.t rfl) (.t rfl) (fun _ => by omega)) ?_
        refine asn rfl (nil (bN (pN (region (mv rfl (co (Ev.add_i (.t rfl) (.c (v := I 1) rfl) (fun _ => by omega)) ?_))))))
        refine asn rfl (nP (nx (X := Nat × OV) (k + 1, _) ?_ ?_ (hL := (by rw [show kindsF l (k + 1) = kindsF l k ++ listG (thingE l k) (baseK l k) (szK l k) (limK k) from rfl]; unfold listG; (first | rw [if_pos (by omega), ← List.append_assoc] | rw [if_neg (by omega), List.append_nil]); repeat first | exact sR | exact sN | apply sC | apply sS | apply sA))))
        · try dsimp only
          omega
        · try dsimp only
          omega
  · try simp only [Gx.nb] at h0
    obtain rfl : k = 5 := by omega
    refine exit (pX (pX (bX (pN (cut (X := OV) (fun x : OV => True) (fun x : OV => [dz, (5, true, x.v)]) (fun x : OV => [OwnS x.v eFault (checkF l c.default) 115]) ?_ (fun x hx => ?_))))))
    · refine seq ?_
      rw [kindsF_all, baseK_all]
      refine region (co (fA 5 (.t rfl)) ?_)
      refine co (Ev.ldx c.default ty3 (.t rfl) SConf.l_default) ?_
      refine co (Ev.neq_i (.t rfl) (.c (v := I 1) rfl)) ?_
      refine mv rfl (cg rfl rfl (fA 5 (.t rfl)) ?_)
      refine cg rfl rfl (Ev.ldx c.default ty3 (.g rfl id) SConf.l_default) ?_
      refine cg rfl rfl (Ev.neq_i (.g rfl id) (.c (v := I 2) rfl)) ?_
      refine co (Ev.pkA (.t rfl) rfl) ?_
      refine mv rfl (cg rfl rfl (fA 5 (.t rfl)) ?_)
      refine cg rfl rfl (Ev.ldx c.default ty3 (.g rfl id) SConf.l_default) ?_
      refine cg rfl rfl (Ev.neq_i (.g rfl id) (.c (v := I 4) rfl)) ?_
      refine co (Ev.pkA (.t rfl) rfl) ?_
      refine nP ?_
      first | refine condD rfl (fun h4 => ?_) (fun h4 => ?_) | refine cond rfl (fun h4 => ?_) (fun h4 => ?_)
      · have hdb : defBad c.default = true := (defBad_eq _).trans h4
        refine region (mv rfl (mv rfl (co (Ev.buildS (fs := _) (places := [(0, 1), (1, 1)]) z115 rfl Tryz.underlying115 (by kernel_rfl) (.cons (.c (v := I 2) rfl) (.cons (.t rfl) .nil)) (Fills.cons SFault.l_code rfl (Fills.cons SFault.l_at_ rfl Fills.nil))) ?_)))
        refine cons (buildSlice (E := eFault) Tryz.underlying65 ty115 z115 (.cons (.t rfl) .nil) rfl rfl (fun v8 => ?_))
        refine cons (app (E := eFault) Tryz.underlying65 ty115 zb115 zs115 (.t rfl) (.t rfl) (fun v9 => ?_) (hby := ⟨by (show _ ≤ 9223372036854775807); have := thingsF_len l; simp only [List.length_cons, List.length_nil]; omega, by have := thingsF_len l; simp only [List.length_cons, List.length_nil]; omega⟩))
        refine asn rfl (nP (mt (X := OV) (_) trivial (hL := (by unfold checkF; (first | rw [if_pos hdb] | rw [if_neg hdb, List.append_nil]); repeat first | exact sR | exact sN | apply sC | apply sS | apply sA))))
      · have hdb : ¬ defBad c.default = true := by rw [show defBad c.default = false from (defBad_eq _).trans h4]; exact Bool.false_ne_true
        refine skip (pN (mt (X := OV) (_) trivial (hL := (by unfold checkF; (first | rw [if_pos hdb] | rw [if_neg hdb, List.append_nil]); repeat first | exact sR | exact sN | apply sC | apply sS | apply sA))))
    obtain ⟨q2, rfl⟩ : ∃ y, y = x := ⟨x, rfl⟩
    show Sat _ _ [dz, (5, true, q2.v)] [OwnS q2.v eFault (checkF l c.default) 115]
    refine sg (mv rfl (asn rfl (nP (ret (done rfl (.tmp rfl .nil) (retOE (by repeat first | exact mH | apply mT | apply mA) ?_))))))
    rfl
end Go.Proofs.YtmdkmclgfgaahaaGreat
namespace Go.Proofs.YtmdkmclgfgaahaaGreat
open Go Go.Gx Go.Proofs.YtmdkmclgfgaahaaGreat.Tri
end Go.Proofs.YtmdkmclgfgaahaaGreat
namespace Go.Proofs.YtmdkmclgfgaahaaGreat
open Go Go.Gx Go.Proofs.YtmdkmclgfgaahaaGreat.Tri
abbrev OC (x : CB) (l : CL) : Res := Seps (OwnS x.o1.v iE l.ps 3) [OwnS x.o2.v eRoute l.rs 102, OwnS x.o3.v eRule l.us 93, OwnS x.o4.v eMeterConf l.ms 81, OwnS x.o5.v eMirrorConf l.xs 83]
set_option maxRecDepth 8000 in
theorem spoil_ok (y : CB) (l : CL) (d : Int) (w : World) (h : At (OC y l) w) (hl : l.Small) : Calls Tryz.prog 13 #[eConf.val (y.c d)] w (RetR w (OC y l) (fun _ : Unit => True) (fun _ => .tuple #[]) (fun _ => Emp)) := by
  obtain ⟨hl0, hl1, hl2, hl3, hl4⟩ := hl
  refine enter (OC y l).foot 66 [OC y l] Tryz.func13 rfl rfl (Nat.le_of_ble_eq_true rfl) (start_at h) ?_
  refine sepsOut Rem.head ?_
  refine sg (cons (box (E := eConf) (.t rfl) (fun b1 => ?_)))
  refine nP (seq (sg (co (Ev.assign (.c (v := I 0) rfl)) ?_)))
  refine nP (block (lp (X := Int × (List Int)) (fun x : Int × (List Int) => (0 ≤ x.1 ∧ x.1 ≤ l.ps.length) ∧ (x.2.length = l.ps.length)) (fun x : Int × (List Int) => [dz, (1, true, .pointer (some ⟨b1, 0, none⟩)), (2, true, I x.1)]) (fun x : Int × (List Int) => [Var b1 eConf (y.c d) 28, OwnS y.o1.v iE x.2 3, OwnS y.o2.v eRoute l.rs 102, OwnS y.o3.v eRule l.us 93, OwnS y.o4.v eMeterConf l.ms 81, OwnS y.o5.v eMirrorConf l.xs 83]) (fun x : Int × (List Int) => ((l.ps.length : Int) - x.1).toNat) (0, l.ps) ⟨?_, ?_⟩ (fun x hx => ?_)))
  · omega
  · rfl
  obtain ⟨i0, y1⟩ := x
  obtain ⟨hi0, hy0⟩ : (0 ≤ i0 ∧ i0 ≤ l.ps.length) ∧ (y1.length = l.ps.length) := hx
  show Sat _ _ [dz, (1, true, .pointer (some ⟨b1, 0, none⟩)), (2, true, I i0)] [Var b1 eConf (y.c d) 28, OwnS y.o1.v iE y1 3, OwnS y.o2.v eRoute l.rs 102, OwnS y.o3.v eRule l.us 93, OwnS y.o4.v eMeterConf l.ms 81, OwnS y.o5.v eMirrorConf l.xs 83]
  refine seq (sg (mv rfl (co (fA 0 (.t rfl)) ?_)))
  refine co (Ev.to (v' := y.o1.v) (Ev.ldv ty22 (.t rfl) SConf.l_ports) (rfl)) ?_
  refine co (Ev.len Tryz.underlying22 (.t rfl) (by first | exact isSl_own (by repeat first | exact mH | apply mT | apply mA) | exact fun w I => IsSl.keep0 (by assumption) I.keeps)) ?_
  refine co (Ev.lss_i (.t rfl) (.t rfl)) ?_
  refine nP ?_
  first | refine condD rfl (fun h0 => ?_) (fun h0 => ?_) | refine cond rfl (fun h0 => ?_) (fun h0 => ?_)
  · try simp only [Gx.nb] at h0
    refine skip (pN (seq (block (region (co (fA 0 (.t rfl)) ?_)))))
    refine co (Ev.to (v' := y.o1.v) (Ev.ldv ty22 (.t rfl) SConf.l_ports) (rfl)) ?_
    refine mv rfl (co (Ev.indexAddr Tryz.underlying22 ty3 (.t rfl) (.t rfl) (by first | exact isSl_own (by repeat first | exact mH | apply mT | apply mA) | exact fun w I => IsSl.keep0 (by assumption) I.keeps) (fun _ => by omega)) ?_)
    refine cons (storeS0 ty3 (.t rfl) (.c (v := I (-7)) rfl) (by repeat first | exact Upd.head | apply Upd.tail | apply Upd.right) (by omega) ?_)
    refine nil (bN (pN (region (mv rfl (co (Ev.add_i (.t rfl) (.c (v := I 1) rfl) (fun _ => by omega)) ?_)))))
    refine asn rfl (nP (nx (X := Int × (List Int)) (i0 + 1, _) ⟨?_, ?_⟩ ?_))
    · try dsimp only
      omega
    · try dsimp only
      rw [List.length_set]; exact hy0
    · try dsimp only
      omega
  · try simp only [Gx.nb] at h0
    refine exit (pX (pX (bX (pN (seq (sg (co (Ev.assign (.c (v := I 0) rfl)) ?_)))))))
    refine nP (block (lp (X := Int × (List SRoute)) (fun x : Int × (List SRoute) => (0 ≤ x.1 ∧ x.1 ≤ l.rs.length) ∧ (x.2.length = l.rs.length)) (fun x : Int × (List SRoute) => [dz, (1, true, .pointer (some ⟨b1, 0, none⟩)), (3, true, I x.1)]) (fun x : Int × (List SRoute) => [Var b1 eConf (y.c d) 28, OwnS y.o1.v iE y1 3, OwnS y.o2.v eRoute x.2 102, OwnS y.o3.v eRule l.us 93, OwnS y.o4.v eMeterConf l.ms 81, OwnS y.o5.v eMirrorConf l.xs 83]) (fun x : Int × (List SRoute) => ((l.rs.length : Int) - x.1).toNat) (0, l.rs) ⟨?_, ?_⟩ (fun x hx => ?_)))
    · omega
    · rfl
    obtain ⟨i1, y2⟩ := x
    obtain ⟨hi1, hy1⟩ : (0 ≤ i1 ∧ i1 ≤ l.rs.length) ∧ (y2.length = l.rs.length) := hx
    show Sat _ _ [dz, (1, true, .pointer (some ⟨b1, 0, none⟩)), (3, true, I i1)] [Var b1 eConf (y.c d) 28, OwnS y.o1.v iE y1 3, OwnS y.o2.v eRoute y2 102, OwnS y.o3.v eRule l.us 93, OwnS y.o4.v eMeterConf l.ms 81, OwnS y.o5.v eMirrorConf l.xs 83]
    refine seq (sg (mv rfl (co (fA 1 (.t rfl)) ?_)))
    refine co (Ev.to (v' := y.o2.v) (Ev.ldv ty23 (.t rfl) SConf.l_routes) (rfl)) ?_
    refine co (Ev.len Tryz.underlying23 (.t rfl) (by first | exact isSl_own (by repeat first | exact mH | apply mT | apply mA) | exact fun w I => IsSl.keep0 (by assumption) I.keeps)) ?_
    refine co (Ev.lss_i (.t rfl) (.t rfl)) ?_
    refine nP ?_
    first | refine condD rfl (fun h1 => ?_) (fun h1 => ?_) | refine cond rfl (fun h1 => ?_) (fun h1 => ?_)
    · try simp only [Gx.nb] at h1
      refine skip (pN (seq (block (region (co (fA 1 (.t rfl)) ?_)))))
      refine co (Ev.to (v' := y.o2.v) (Ev.ldv ty23 (.t rfl) SConf.l_routes) (rfl)) ?_
      refine mv rfl (co (Ev.buildS (fs := _) (places := [(0, 18), (18, 1)]) z102 rfl Tryz.underlying102 (by kernel_rfl) (.cons (.c (v := I (-7)) rfl) .nil) (Fills.cons SRoute.l_out rfl Fills.nil)) ?_)
      refine co (Ev.indexAddr Tryz.underlying23 ty102 (.t rfl) (.t rfl) (by first | exact isSl_own (by repeat first | exact mH | apply mT | apply mA) | exact fun w I => IsSl.keep0 (by assumption) I.keeps) (fun _ => by omega)) ?_
      refine cons (storeS0 ty102 (.t rfl) (.t rfl) (by repeat first | exact Upd.head | apply Upd.tail | apply Upd.right) (by omega) ?_)
      refine nil (bN (pN (region (mv rfl (co (Ev.add_i (.t rfl) (.c (v := I 1) rfl) (fun _ => by omega)) ?_)))))
      refine asn rfl (nP (nx (X := Int × (List SRoute)) (i1 + 1, _) ⟨?_, ?_⟩ ?_))
      · try dsimp only
        omega
      · try dsimp only
        rw [List.length_set]; exact hy1
      · try dsimp only
        omega
    · try simp only [Gx.nb] at h1
      refine exit (pX (pX (bX (pN (seq (sg (co (Ev.assign (.c (v := I 0) rfl)) ?_)))))))
      refine nP (block (lp (X := Int × (List SRule)) (fun x : Int × (List SRule) => (0 ≤ x.1 ∧ x.1 ≤ l.us.length) ∧ (x.2.length = l.us.length)) (fun x : Int × (List SRule) => [dz, (1, true, .pointer (some ⟨b1, 0, none⟩)), (4, true, I x.1)]) (fun x : Int × (List SRule) => [Var b1 eConf (y.c d) 28, OwnS y.o1.v iE y1 3, OwnS y.o2.v eRoute y2 102, OwnS y.o3.v eRule x.2 93, OwnS y.o4.v eMeterConf l.ms 81, OwnS y.o5.v eMirrorConf l.xs 83]) (fun x : Int × (List SRule) => ((l.us.length : Int) - x.1).toNat) (0, l.us) ⟨?_, ?_⟩ (fun x hx => ?_)))
      · omega
      · rfl
      obtain ⟨i2, y3⟩ := x
      obtain ⟨hi2, hy2⟩ : (0 ≤ i2 ∧ i2 ≤ l.us.length) ∧ (y3.length = l.us.length) := hx
      show Sat _ _ [dz, (1, true, .pointer (some ⟨b1, 0, none⟩)), (4, true, I i2)] [Var b1 eConf (y.c d) 28, OwnS y.o1.v iE y1 3, OwnS y.o2.v eRoute y2 102, OwnS y.o3.v eRule y3 93, OwnS y.o4.v eMeterConf l.ms 81, OwnS y.o5.v eMirrorConf l.xs 83]
      refine seq (sg (mv rfl (co (fA 2 (.t rfl)) ?_)))
      refine co (Ev.to (v' := y.o3.v) (Ev.ldv ty24 (.t rfl) SConf.l_rules) (rfl)) ?_
      refine co (Ev.len Tryz.underlying24 (.t rfl) (by first | exact isSl_own (by repeat first | exact mH | apply mT | apply mA) | exact fun w I => IsSl.keep0 (by assumption) I.keeps)) ?_
      refine co (Ev.lss_i (.t rfl) (.t rfl)) ?_
      refine nP ?_
      first | refine condD rfl (fun h2 => ?_) (fun h2 => ?_) | refine cond rfl (fun h2 => ?_) (fun h2 => ?_)
      · try simp only [Gx.nb] at h2
        refine skip (pN (seq (block (region (co (fA 2 (.t rfl)) ?_)))))
        refine co (Ev.to (v' := y.o3.v) (Ev.ldv ty24 (.t rfl) SConf.l_rules) (rfl)) ?_
        refine mv rfl (co (Ev.buildS (fs := _) (places := [(0, 1), (1, 44), (45, 1), (46, 1), (47, 1), (48, 1)]) z93 rfl Tryz.underlying93 (by kernel_rfl) (.cons (.c (v := (Go.Value.string (ByteArray.mk #[115, 112, 111, 105, 108, 116]))) rfl) .nil) (Fills.cons SRule.l_name rfl Fills.nil)) ?_)
        refine co (Ev.indexAddr Tryz.underlying24 ty93 (.t rfl) (.t rfl) (by first | exact isSl_own (by repeat first | exact mH | apply mT | apply mA) | exact fun w I => IsSl.keep0 (by assumption) I.keeps) (fun _ => by omega)) ?_
        refine cons (storeS0 ty93 (.t rfl) (.t rfl) (by repeat first | exact Upd.head | apply Upd.tail | apply Upd.right) (by omega) ?_)
        refine nil (bN (pN (region (mv rfl (co (Ev.add_i (.t rfl) (.c (v := I 1) rfl) (fun _ => by omega)) ?_)))))
        refine asn rfl (nP (nx (X := Int × (List SRule)) (i2 + 1, _) ⟨?_, ?_⟩ ?_))
        · try dsimp only
          omega
        · try dsimp only
          rw [List.length_set]; exact hy2
        · try dsimp only
          omega
      · try simp only [Gx.nb] at h2
        refine exit (pX (pX (bX (pN (seq (sg (co (Ev.assign (.c (v := I 0) rfl)) ?_)))))))
        refine nP (block (lp (X := Int × (List SMeterConf)) (fun x : Int × (List SMeterConf) => (0 ≤ x.1 ∧ x.1 ≤ l.ms.length) ∧ (x.2.length = l.ms.length)) (fun x : Int × (List SMeterConf) => [dz, (1, true, .pointer (some ⟨b1, 0, none⟩)), (5, true, I x.1)]) (fun x : Int × (List SMeterConf) => [Var b1 eConf (y.c d) 28, OwnS y.o1.v iE y1 3, OwnS y.o2.v eRoute y2 102, OwnS y.o3.v eRule y3 93, OwnS y.o4.v eMeterConf x.2 81, OwnS y.o5.v eMirrorConf l.xs 83]) (fun x : Int × (List SMeterConf) => ((l.ms.length : Int) - x.1).toNat) (0, l.ms) ⟨?_, ?_⟩ (fun x hx => ?_)))
        · omega
        · rfl
        obtain ⟨i3, y4⟩ := x
        obtain ⟨hi3, hy3⟩ : (0 ≤ i3 ∧ i3 ≤ l.ms.length) ∧ (y4.length = l.ms.length) := hx
        show Sat _ _ [dz, (1, true, .pointer (some ⟨b1, 0, none⟩)), (5, true, I i3)] [Var b1 eConf (y.c d) 28, OwnS y.o1.v iE y1 3, OwnS y.o2.v eRoute y2 102, OwnS y.o3.v eRule y3 93, OwnS y.o4.v eMeterConf y4 81, OwnS y.o5.v eMirrorConf l.xs 83]
        refine seq (sg (mv rfl (co (fA 3 (.t rfl)) ?_)))
        refine co (Ev.to (v' := y.o4.v) (Ev.ldv ty25 (.t rfl) SConf.l_meters) (rfl)) ?_
        refine co (Ev.len Tryz.underlying25 (.t rfl) (by first | exact isSl_own (by repeat first | exact mH | apply mT | apply mA) | exact fun w I => IsSl.keep0 (by assumption) I.keeps)) ?_
        refine co (Ev.lss_i (.t rfl) (.t rfl)) ?_
        refine nP ?_
        first | refine condD rfl (fun h3 => ?_) (fun h3 => ?_) | refine cond rfl (fun h3 => ?_) (fun h3 => ?_)
        · try simp only [Gx.nb] at h3
          refine skip (pN (seq (block (region (co (fA 3 (.t rfl)) ?_)))))
          refine co (Ev.to (v' := y.o4.v) (Ev.ldv ty25 (.t rfl) SConf.l_meters) (rfl)) ?_
          refine mv rfl (co (Ev.buildS (fs := _) (places := [(0, 1), (1, 3)]) z81 rfl Tryz.underlying81 (by kernel_rfl) (.cons (.c (v := (Go.Value.string (ByteArray.mk #[115, 112, 111, 105, 108, 116]))) rfl) .nil) (Fills.cons SMeterConf.l_name rfl Fills.nil)) ?_)
          refine co (Ev.indexAddr Tryz.underlying25 ty81 (.t rfl) (.t rfl) (by first | exact isSl_own (by repeat first | exact mH | apply mT | apply mA) | exact fun w I => IsSl.keep0 (by assumption) I.keeps) (fun _ => by omega)) ?_
          refine cons (storeS0 ty81 (.t rfl) (.t rfl) (by repeat first | exact Upd.head | apply Upd.tail | apply Upd.right) (by omega) ?_)
          refine nil (bN (pN (region (mv rfl (co (Ev.add_i (.t rfl) (.c (v := I 1) rfl) (fun _ => by omega)) ?_)))))
          refine asn rfl (nP (nx (X := Int × (List SMeterConf)) (i3 + 1, _) ⟨?_, ?_⟩ ?_))
          · try dsimp only
            omega
          · try dsimp only
            rw [List.length_set]; exact hy3
          · try dsimp only
            omega
        · try simp only [Gx.nb] at h3
          refine exit (pX (pX (bX (pN (sg (co (Ev.assign (.c (v := I 0) rfl)) ?_))))))
          refine nP (block (lp (X := Int × (List SMirrorConf)) (fun x : Int × (List SMirrorConf) => (0 ≤ x.1 ∧ x.1 ≤ l.xs.length) ∧ (x.2.length = l.xs.length)) (fun x : Int × (List SMirrorConf) => [dz, (1, true, .pointer (some ⟨b1, 0, none⟩)), (6, true, I x.1)]) (fun x : Int × (List SMirrorConf) => [Var b1 eConf (y.c d) 28, OwnS y.o1.v iE y1 3, OwnS y.o2.v eRoute y2 102, OwnS y.o3.v eRule y3 93, OwnS y.o4.v eMeterConf y4 81, OwnS y.o5.v eMirrorConf x.2 83]) (fun x : Int × (List SMirrorConf) => ((l.xs.length : Int) - x.1).toNat) (0, l.xs) ⟨?_, ?_⟩ (fun x hx => ?_)))
          · omega
          · rfl
          obtain ⟨i4, y5⟩ := x
          obtain ⟨hi4, hy4⟩ : (0 ≤ i4 ∧ i4 ≤ l.xs.length) ∧ (y5.length = l.xs.length) := hx
          show Sat _ _ [dz, (1, true, .pointer (some ⟨b1, 0, none⟩)), (6, true, I i4)] [Var b1 eConf (y.c d) 28, OwnS y.o1.v iE y1 3, OwnS y.o2.v eRoute y2 102, OwnS y.o3.v eRule y3 93, OwnS y.o4.v eMeterConf y4 81, OwnS y.o5.v eMirrorConf y5 83]
          refine seq (sg (mv rfl (co (fA 4 (.t rfl)) ?_)))
          refine co (Ev.to (v' := y.o5.v) (Ev.ldv ty26 (.t rfl) SConf.l_mirrors) (rfl)) ?_
          refine co (Ev.len Tryz.underlying26 (.t rfl) (by first | exact isSl_own (by repeat first | exact mH | apply mT | apply mA) | exact fun w I => IsSl.keep0 (by assumption) I.keeps)) ?_
          refine co (Ev.lss_i (.t rfl) (.t rfl)) ?_
          refine nP ?_
          first | refine condD rfl (fun h4 => ?_) (fun h4 => ?_) | refine cond rfl (fun h4 => ?_) (fun h4 => ?_)
          · try simp only [Gx.nb] at h4
            refine skip (pN (seq (block (region (co (fA 4 (.t rfl)) ?_)))))
            refine co (Ev.to (v' := y.o5.v) (Ev.ldv ty26 (.t rfl) SConf.l_mirrors) (rfl)) ?_
            refine mv rfl (co (Ev.buildS (fs := _) (places := [(0, 1), (1, 1), (2, 1)]) z83 rfl Tryz.underlying83 (by kernel_rfl) (.cons (.c (v := (Go.Value.string (ByteArray.mk #[115, 112, 111, 105, 108, 116]))) rfl) .nil) (Fills.cons SMirrorConf.l_name rfl Fills.nil)) ?_)
            refine co (Ev.indexAddr Tryz.underlying26 ty83 (.t rfl) (.t rfl) (by first | exact isSl_own (by repeat first | exact mH | apply mT | apply mA) | exact fun w I => IsSl.keep0 (by assumption) I.keeps) (fun _ => by omega)) ?_
            refine cons (storeS0 ty83 (.t rfl) (.t rfl) (by repeat first | exact Upd.head | apply Upd.tail | apply Upd.right) (by omega) ?_)
            refine nil (bN (pN (region (mv rfl (co (Ev.add_i (.t rfl) (.c (v := I 1) rfl) (fun _ => by omega)) ?_)))))
            refine asn rfl (nP (nx (X := Int × (List SMirrorConf)) (i4 + 1, _) ⟨?_, ?_⟩ ?_))
            · try dsimp only
              omega
            · try dsimp only
              rw [List.length_set]; exact hy4
            · try dsimp only
              omega
          · try simp only [Gx.nb] at h4
            refine exit (pX (pX (bX (done' rfl .nil (fun w I => ?_)))))
            exact retD (n := 66) rfl w I
end Go.Proofs.YtmdkmclgfgaahaaGreat
namespace Go.Proofs.YtmdkmclgfgaahaaGreat
open Go Go.Gx Go.Proofs.YtmdkmclgfgaahaaGreat.Tri
theorem put_mem {α β : Type} {q : α → α → Bool} (k : α) (v : β) : ∀ (l : List (α × β)) (p : α × β), p ∈ putL q k v l → p.1 = k ∨ ∃ p' ∈ l, p'.1 = p.1
  | [], p, h => by
    unfold putL at h
    exact .inl (by rw [List.mem_singleton.1 h])
  | e :: l, p, h => by
    unfold putL at h
    split at h
    · rcases List.mem_cons.1 h with rfl | h
      · exact .inl rfl
      · exact .inr ⟨p, List.mem_cons_of_mem _ h, rfl⟩
    · rcases List.mem_cons.1 h with rfl | h
      · exact .inr ⟨p, List.mem_cons_self, rfl⟩
      · rcases put_mem k v l p h with h | ⟨p', h1, h2⟩
        · exact .inl h
        · exact .inr ⟨p', List.mem_cons_of_mem _ h1, h2⟩
def Uniq {α β : Type} (q : α → α → Bool) (l : List (α × β)) : Prop := l.Pairwise (fun a b => q a.1 b.1 = false)
theorem put_uniq {α β : Type} {q : α → α → Bool} (hi : ∀ x y, q x y = true ↔ x = y) (k : α) (v : β) : ∀ l : List (α × β), Uniq q l → Uniq q (putL q k v l)
  | [], _ => by
    unfold putL Uniq
    exact List.pairwise_singleton _ _
  | e :: l, h => by
    obtain ⟨h1, h2⟩ := List.pairwise_cons.1 h
    unfold putL
    split
    · rename_i hq
      have e2 := (hi _ _).1 hq
      exact List.pairwise_cons.2 ⟨fun b hb => by show q k b.1 = false; rw [e2]; exact h1 b hb, h2⟩
    · rename_i hq
      refine List.pairwise_cons.2 ⟨fun b hb => ?_, put_uniq hi k v l h2⟩
      rcases put_mem k v l b hb with h3 | ⟨p', h3, h4⟩
      · rw [h3, Bool.eq_false_iff]
        intro h5
        exact hq ((hi _ _).2 ((hi _ _).1 h5).symm)
      · rw [← h4]
        exact h1 p' h3
theorem find_uniq {α β : Type} {q : α → α → Bool} (hi : ∀ x y, q x y = true ↔ x = y) : ∀ (l : List (α × β)), Uniq q l → ∀ p ∈ l, findV q p.1 l = some p.2
  | [], _, p, hp => by cases hp
  | e :: l, h, p, hp => by
    obtain ⟨h1, h2⟩ := List.pairwise_cons.1 h
    rw [findV_cons]
    rcases List.mem_cons.1 hp with rfl | hp
    · rw [if_pos ((hi _ _).2 rfl)]
    · have hn : ¬ q p.1 e.1 = true := fun h3 => by
        have := h1 p hp
        rw [(hi _ _).2 ((hi _ _).1 h3).symm] at this
        cases this
      rw [if_neg hn]
      exact find_uniq hi l h2 p hp
theorem find_mem {α β : Type} {q : α → α → Bool} {k : α} {v : β} : ∀ (l : List (α × β)), findV q k l = some v → ∃ p ∈ l, p.2 = v
  | [], h => by cases h
  | e :: l, h => by
    rw [findV_cons] at h
    split at h
    · exact ⟨e, List.mem_cons_self, Option.some.inj h⟩
    · obtain ⟨p, h1, h2⟩ := find_mem l h
      exact ⟨p, List.mem_cons_of_mem _ h1, h2⟩
theorem inc_uniq {α : Type} {q : α → α → Bool} (hi : ∀ x y, q x y = true ↔ x = y) (d : Int) (l : List α) {m : List (α × Int)} (hm : Uniq q m) : ∀ n, Uniq q (incN q d l m n)
  | 0 => hm
  | n + 1 => by
    unfold incN
    split
    · exact inc_uniq hi d l hm n
    · exact put_uniq hi _ _ _ (inc_uniq hi d l hm n)
theorem alike_val {α : Type} {q : α → α → Bool} (hi : ∀ x y, q x y = true ↔ x = y) (l k : List α) (x : α) : (findV q x (alikeM q l k)).getD 0 = (l.countP (q x) : Int) - k.countP (q x) := by
  unfold alikeM
  rw [incN_val hi, incN_val hi, List.take_length, List.take_length]
  have e0 : (findV q x ([] : List (α × Int))).getD 0 = 0 := rfl
  rw [e0]
  omega
theorem alike_iff {α : Type} {q : α → α → Bool} (hi : ∀ x y, q x y = true ↔ x = y) (l k : List α) : alikeB q l k = true ↔ ∀ x, l.countP (q x) = k.countP (q x) := by
  have hu : Uniq q (alikeM q l k) := by
    unfold alikeM
    exact inc_uniq hi _ _ (inc_uniq hi _ _ List.Pairwise.nil _) _
  unfold alikeB
  rw [List.all_eq_true]
  constructor
  · intro h x
    have hv := alike_val hi l k x
    cases hf : findV q x (alikeM q l k) with
    | none => rw [hf] at hv; simp only [Option.getD_none] at hv; omega
    | some v =>
      obtain ⟨p, hp, e⟩ := find_mem _ hf
      have := of_decide_eq_true (h p hp)
      rw [hf] at hv
      simp only [Option.getD_some] at hv
      omega
  · intro h p hp
    have hv := alike_val hi l k p.1
    rw [find_uniq hi _ hu p hp, h p.1] at hv
    simp only [Option.getD_some] at hv
    exact decide_eq_true (by omega)
theorem perm_counts {α : Type} [DecidableEq α] : ∀ (l k : List α), l.length = k.length → (∀ x ∈ l, l.count x = k.count x) → l.Perm k
  | [], k, h, _ => by
    have : k = [] := List.length_eq_zero_iff.1 h.symm
    rw [this]
  | x :: l, k, h, hc => by
    have hx := hc x List.mem_cons_self
    rw [List.count_cons_self] at hx
    have hm : x ∈ k := List.count_pos_iff.1 (by omega)
    have hp := List.perm_cons_erase hm
    refine List.Perm.trans ?_ hp.symm
    refine List.Perm.cons x (perm_counts l (k.erase x) ?_ fun y hy => ?_)
    · rw [List.length_erase_of_mem hm]
      simp only [List.length_cons] at h
      omega
    · have h1 := hc y (List.mem_cons_of_mem _ hy)
      have h2 := hp.count_eq y
      rw [h1.symm, List.count_cons, List.count_cons] at h2
      omega
theorem count_q {α : Type} [DecidableEq α] {q : α → α → Bool} (hi : ∀ x y, q x y = true ↔ x = y) (l : List α) (x : α) : l.countP (q x) = l.count x := by
  unfold List.count
  refine List.countP_congr fun y _ => ?_
  rw [hi, beq_iff_eq]
  exact eq_comm
theorem alike_perm {α : Type} [DecidableEq α] {q : α → α → Bool} (hi : ∀ x y, q x y = true ↔ x = y) (l k : List α) : alikeB q l k = true ↔ l.Perm k := by
  rw [alike_iff hi, List.perm_iff_count]
  constructor
  · intro h x
    rw [← count_q hi, ← count_q hi]
    exact h x
  · intro h x
    rw [count_q hi, count_q hi]
    exact h x
def alikeR {α : Type} (q : α → α → Bool) (l k : List α) : Bool := decide (l.length = k.length) && l.all (fun x => decide (l.countP (q x) = k.countP (q x)))
theorem alikeR_eq {α : Type} [DecidableEq α] {q : α → α → Bool} (hi : ∀ x y, q x y = true ↔ x = y) (l k : List α) : alikeR q l k = alikeB q l k := by
  rw [Bool.eq_iff_iff, alike_perm hi]
  unfold alikeR
  rw [Bool.and_eq_true, decide_eq_true_iff, List.all_eq_true]
  constructor
  · rintro ⟨h1, h2⟩
    refine perm_counts l k h1 fun x hx => ?_
    have := of_decide_eq_true (h2 x hx)
    rwa [count_q hi, count_q hi] at this
  · intro h
    exact ⟨h.length_eq, fun x _ => decide_eq_true (h.countP_eq _)⟩
theorem samePorts_ok (u v : Value) (a b : List Int) (w : World) (ha : IsSl iE w u a) (hb : IsSl iE w v b) : Calls Tryz.prog 54 #[u, v] w (RetV w (.bool (decide (a = b)))) := by
  have hal := ha.le
  have hbl := hb.le
  refine en0 26 Tryz.func54 ?_
  refine sg (co (Ev.assign (.c (v := .bool false) rfl)) ?_)
  refine nP (seq (sg (mv rfl (co (Ev.len Tryz.underlying22 (.t rfl) (fun w I => ha.keep0 I.keeps)) ?_))))
  refine mv rfl (co (Ev.len Tryz.underlying22 (.t rfl) (fun w I => hb.keep0 I.keeps)) ?_)
  refine co (Ev.neq_i (.t rfl) (.t rfl)) ?_
  refine nP ?_
  first | refine condD rfl (fun hne => ?_) (fun hlen => ?_) | refine cond rfl (fun hne => ?_) (fun hlen => ?_)
  · try simp only [Gx.nb] at hne
    refine sg (co (Ev.assign (.c (v := .bool false) rfl)) ?_)
    refine nP (ret (pR (done rfl (.tmp rfl .nil) (retE ?_))))
    exact bF (fun e => by subst e; omega)
  · try simp only [Gx.nb] at hlen
    refine skip (pN (seq (sg (co (Ev.assign (.c (v := I 0) rfl)) ?_))))
    refine nP (block (lp (X := Int) (fun x : Int => (0 ≤ x ∧ x ≤ a.length) ∧ (a.take x.toNat = b.take x.toNat)) (fun x : Int => [dz, (0, true, u), (1, true, v), (5, true, I x)]) (fun x : Int => []) (fun x : Int => (a.length - x).toNat) (0) ⟨?_, ?_⟩ (fun x hx => ?_)))
    · omega
    · rfl
    obtain ⟨i, rfl⟩ : ∃ y, y = x := ⟨x, rfl⟩
    obtain ⟨hi, ht⟩ : (0 ≤ i ∧ i ≤ a.length) ∧ (a.take i.toNat = b.take i.toNat) := hx
    show Sat _ _ [dz, (0, true, u), (1, true, v), (5, true, I i)] []
    refine seq (sg (mv rfl (mv rfl (co (Ev.len Tryz.underlying22 (.t rfl) (fun w I => ha.keep0 I.keeps)) ?_))))
    refine co (Ev.lss_i (.t rfl) (.t rfl)) ?_
    refine nP ?_
    first | refine condD rfl (fun hlt => ?_) (fun hge => ?_) | refine cond rfl (fun hlt => ?_) (fun hge => ?_)
    · try simp only [Gx.nb] at hlt
      refine skip (pN (seq (block (seq (draw' (by kernel_rfl) ?_)))))
      refine tk 0 rfl (Ev.move (.t rfl)) ?_
      refine tk 1 rfl (Ev.move (.t rfl)) ?_
      refine tk 2 rfl (Ev.indexAddr Tryz.underlying22 ty3 (.t rfl) (.t rfl) (fun w I => ha.keep0 I.keeps) (fun _ => by omega)) ?_
      refine tk 3 rfl (Ev.loadS0 ty3 (.t rfl) (fun w I => ha.keep0 I.keeps) (fun _ => by omega)) ?_
      refine tk 4 rfl (Ev.move (.t rfl)) ?_
      refine tk 5 rfl (Ev.move (.t rfl)) ?_
      refine tk 6 rfl (Ev.indexAddr Tryz.underlying22 ty3 (.t rfl) (.t rfl) (fun w I => hb.keep0 I.keeps) (fun _ => by omega)) ?_
      refine tk 7 rfl (Ev.loadS0 ty3 (.t rfl) (fun w I => hb.keep0 I.keeps) (fun _ => by omega)) ?_
      refine tk 8 rfl (Ev.neq_i (.t rfl) (.t rfl)) ?_
      refine ovr (pN ?_)
      first | refine condD rfl (fun h2 => ?_) (fun h2 => ?_) | refine cond rfl (fun h2 => ?_) (fun h2 => ?_)
      · refine sg (co (Ev.assign (.c (v := .bool false) rfl)) ?_)
        refine nP (ret (bR (pR (pR (bR (pR (done rfl (.tmp rfl .nil) (retE ?_))))))))
        exact bF (fun e => by subst e; simp at h2)
      · refine skip (bN (pN (region (mv rfl (co (Ev.add_i (.t rfl) (.c (v := I 1) rfl) (fun _ => by omega)) ?_)))))
        refine asn rfl (nP (nx (X := Int) (i + 1) ⟨?_, ?_⟩ ?_))
        · try dsimp only
          omega
        · try dsimp only
          have h2c : a.getD i.toNat iE.zero = b.getD i.toNat iE.zero := by simpa using h2
          rw [take_snoc a i hi.1 (by omega) iE.zero, take_snoc b i hi.1 (by omega) iE.zero, ht, h2c]
        · try dsimp only
          omega
    · try simp only [Gx.nb] at hge
      refine exit (pX (pX (bX (pN (sg (co (Ev.assign (.c (v := .bool true) rfl)) ?_))))))
      refine nP (ret (done rfl (.tmp rfl .nil) (retE ?_)))
      exact bT (by
        have e : i.toNat = a.length := by omega
        rw [e, List.take_length, List.take_of_length_le (by omega)] at ht
        exact ht)
theorem sameRules_ok (u v : Value) (a b : List SRule) (w : World) (ha : IsSl eRule w u a) (hb : IsSl eRule w v b) : Calls Tryz.prog 55 #[u, v] w (RetV w (.bool (decide (a = b)))) := by
  have hal := ha.le
  have hbl := hb.le
  refine en0 26 Tryz.func55 ?_
  refine sg (co (Ev.assign (.c (v := .bool false) rfl)) ?_)
  refine nP (seq (sg (mv rfl (co (Ev.len Tryz.underlying24 (.t rfl) (fun w I => ha.keep0 I.keeps)) ?_))))
  refine mv rfl (co (Ev.len Tryz.underlying24 (.t rfl) (fun w I => hb.keep0 I.keeps)) ?_)
  refine co (Ev.neq_i (.t rfl) (.t rfl)) ?_
  refine nP ?_
  first | refine condD rfl (fun hne => ?_) (fun hlen => ?_) | refine cond rfl (fun hne => ?_) (fun hlen => ?_)
  · try simp only [Gx.nb] at hne
    refine sg (co (Ev.assign (.c (v := .bool false) rfl)) ?_)
    refine nP (ret (pR (done rfl (.tmp rfl .nil) (retE ?_))))
    exact bF (fun e => by subst e; omega)
  · try simp only [Gx.nb] at hlen
    refine skip (pN (seq (sg (co (Ev.assign (.c (v := I 0) rfl)) ?_))))
    refine nP (block (lp (X := Int) (fun x : Int => (0 ≤ x ∧ x ≤ a.length) ∧ (a.take x.toNat = b.take x.toNat)) (fun x : Int => [dz, (0, true, u), (1, true, v), (5, true, I x)]) (fun x : Int => []) (fun x : Int => (a.length - x).toNat) (0) ⟨?_, ?_⟩ (fun x hx => ?_)))
    · omega
    · rfl
    obtain ⟨i, rfl⟩ : ∃ y, y = x := ⟨x, rfl⟩
    obtain ⟨hi, ht⟩ : (0 ≤ i ∧ i ≤ a.length) ∧ (a.take i.toNat = b.take i.toNat) := hx
    show Sat _ _ [dz, (0, true, u), (1, true, v), (5, true, I i)] []
    refine seq (sg (mv rfl (mv rfl (co (Ev.len Tryz.underlying24 (.t rfl) (fun w I => ha.keep0 I.keeps)) ?_))))
    refine co (Ev.lss_i (.t rfl) (.t rfl)) ?_
    refine nP ?_
    first | refine condD rfl (fun hlt => ?_) (fun hge => ?_) | refine cond rfl (fun hlt => ?_) (fun hge => ?_)
    · try simp only [Gx.nb] at hlt
      refine skip (pN (seq (block (seq (draw' (by kernel_rfl) ?_)))))
      refine tk 0 rfl (Ev.move (.t rfl)) ?_
      refine tk 1 rfl (Ev.move (.t rfl)) ?_
      refine tk 2 rfl (Ev.indexAddr Tryz.underlying24 ty93 (.t rfl) (.t rfl) (fun w I => ha.keep0 I.keeps) (fun _ => by omega)) ?_
      refine tk 3 rfl (Ev.loadS0 ty93 (.t rfl) (fun w I => ha.keep0 I.keeps) (fun _ => by omega)) ?_
      refine tk 4 rfl (Ev.move (.t rfl)) ?_
      refine tk 5 rfl (Ev.move (.t rfl)) ?_
      refine tk 6 rfl (Ev.indexAddr Tryz.underlying24 ty93 (.t rfl) (.t rfl) (fun w I => hb.keep0 I.keeps) (fun _ => by omega)) ?_
      refine tk 7 rfl (Ev.loadS0 ty93 (.t rfl) (fun w I => hb.keep0 I.keeps) (fun _ => by omega)) ?_
      refine tk 8 rfl (Ev.neqS rfl eqok93 rfl (by kernel_rfl) (.t rfl) (.t rfl)) ?_
      refine ovr (pN ?_)
      first | refine condD rfl (fun h2 => ?_) (fun h2 => ?_) | refine cond rfl (fun h2 => ?_) (fun h2 => ?_)
      · refine sg (co (Ev.assign (.c (v := .bool false) rfl)) ?_)
        refine nP (ret (bR (pR (pR (bR (pR (done rfl (.tmp rfl .nil) (retE ?_))))))))
        exact bF (fun e => by subst e; simp at h2)
      · refine skip (bN (pN (region (mv rfl (co (Ev.add_i (.t rfl) (.c (v := I 1) rfl) (fun _ => by omega)) ?_)))))
        refine asn rfl (nP (nx (X := Int) (i + 1) ⟨?_, ?_⟩ ?_))
        · try dsimp only
          omega
        · try dsimp only
          have h2c : a.getD i.toNat eRule.zero = b.getD i.toNat eRule.zero := by simpa using h2
          rw [take_snoc a i hi.1 (by omega) eRule.zero, take_snoc b i hi.1 (by omega) eRule.zero, ht, h2c]
        · try dsimp only
          omega
    · try simp only [Gx.nb] at hge
      refine exit (pX (pX (bX (pN (sg (co (Ev.assign (.c (v := .bool true) rfl)) ?_))))))
      refine nP (ret (done rfl (.tmp rfl .nil) (retE ?_)))
      exact bT (by
        have e : i.toNat = a.length := by omega
        rw [e, List.take_length, List.take_of_length_le (by omega)] at ht
        exact ht)
theorem rroutes_n (u : Value) (a : List SRoute) (y : SRoute) (w : World) (ha : IsSl eRoute w u a) : Calls Tryz.prog 56 #[u, eRoute.val y] w (RetV w (I (a.countP (SRoute.eqb y) : Nat))) := by
  have hal := ha.le
  refine en0 22 Tryz.func56 ?_
  refine sg (cons (box (E := eRoute) (.t rfl) (fun b1 => ?_)))
  refine co (Ev.assign (.c (v := I 0) rfl)) ?_
  refine nP (sg (co (Ev.assign (.c (v := I 0) rfl)) ?_))
  refine nP (seq (sg (co (Ev.assign (.c (v := I 0) rfl)) ?_)))
  refine nP (block (lp (X := Int × Nat) (fun x : Int × Nat => (0 ≤ x.1 ∧ x.1 ≤ a.length) ∧ (x.2 = (a.take x.1.toNat).countP (SRoute.eqb y))) (fun x : Int × Nat => [dz, (0, true, u), (3, true, .pointer (some ⟨b1, 0, none⟩)), (5, true, I (x.2 : Nat)), (6, true, I x.1)]) (fun x : Int × Nat => [Var b1 eRoute y 102]) (fun x : Int × Nat => (a.length - x.1).toNat) (0, 0) ⟨?_, ?_⟩ (fun x hx => ?_)))
  · omega
  · rfl
  obtain ⟨i, n⟩ := x
  obtain ⟨hi, hn⟩ : (0 ≤ i ∧ i ≤ a.length) ∧ (n = (a.take i.toNat).countP (SRoute.eqb y)) := hx
  show Sat _ _ [dz, (0, true, u), (3, true, .pointer (some ⟨b1, 0, none⟩)), (5, true, I (n : Nat)), (6, true, I i)] [Var b1 eRoute y 102]
  have hnl : n ≤ i.toNat := by rw [hn]; exact Nat.le_trans List.countP_le_length (by simp; omega)
  refine seq (sg (mv rfl (mv rfl (co (Ev.len Tryz.underlying23 (.t rfl) (fun w I => ha.keep0 I.keeps)) ?_))))
  refine co (Ev.lss_i (.t rfl) (.t rfl)) ?_
  refine nP ?_
  first | refine condD rfl (fun h0 => ?_) (fun h0 => ?_) | refine cond rfl (fun h0 => ?_) (fun h0 => ?_)
  · try simp only [Gx.nb] at h0
    refine skip (pN (seq (block (seq (draw' (by kernel_rfl) ?_)))))
    refine tk 0 rfl (Ev.move (.t rfl)) ?_
    refine tk 1 rfl (Ev.move (.t rfl)) ?_
    refine tk 2 rfl (Ev.indexAddr Tryz.underlying23 ty102 (.t rfl) (.t rfl) (fun w I => ha.keep0 I.keeps) (fun _ => by omega)) ?_
    refine tk 3 rfl (Ev.loadS0 ty102 (.t rfl) (fun w I => ha.keep0 I.keeps) (fun _ => by omega)) ?_
    refine tk 4 rfl (Ev.ldx y ty102 (.t rfl) (Lens.id _)) ?_
    refine tk 5 rfl (Ev.eqlS rfl eqok102 rfl (by kernel_rfl) (.t rfl) (.t rfl)) ?_
    refine ovr (pN ?_)
    first | refine condD rfl (fun h1 => ?_) (fun h1 => ?_) | refine cond rfl (fun h1 => ?_) (fun h1 => ?_)
    · have hst : n + 1 = (a.take (i + 1).toNat).countP (SRoute.eqb y) := by
        rw [take_snoc a i hi.1 (by omega) eRoute.zero, List.countP_append, ← hn]
        have e : a.getD i.toNat eRoute.zero = y := (SRoute.eqb_iff _ _).1 (by simpa using h1)
        rw [e, List.countP_singleton, (SRoute.eqb_iff _ _).2 rfl]
        rfl
      refine region (mv rfl (co (Ev.to (v' := I ((n + 1 : Nat) : Int)) (Ev.add_i (.t rfl) (.c (v := I 1) rfl) (fun _ => by omega)) (congrArg I (by omega))) ?_))
      refine asn rfl (nil (bN (pN (region (mv rfl (co (Ev.add_i (.t rfl) (.c (v := I 1) rfl) (fun _ => by omega)) ?_))))))
      refine asn rfl (nP (nx (X := Int × Nat) (i + 1, _) ⟨?_, ?_⟩ ?_))
      · try dsimp only
        omega
      · try dsimp only
        exact hst
      · try dsimp only
        omega
    · have hst : n = (a.take (i + 1).toNat).countP (SRoute.eqb y) := by
        rw [take_snoc a i hi.1 (by omega) eRoute.zero, List.countP_append, ← hn]
        have e : ¬ SRoute.eqb y (a.getD i.toNat eRoute.zero) = true := fun h => by
          have h2 := (SRoute.eqb_iff _ _).1 h
          rw [← h2] at h1
          simp [SRoute.eqb_self] at h1
        rw [List.countP_singleton, if_neg e]
        rfl
      refine skip (bN (pN (region (mv rfl (co (Ev.add_i (.t rfl) (.c (v := I 1) rfl) (fun _ => by omega)) ?_)))))
      refine asn rfl (nP (nx (X := Int × Nat) (i + 1, _) ⟨?_, ?_⟩ ?_))
      · try dsimp only
        omega
      · try dsimp only
        exact hst
      · try dsimp only
        omega
  · try simp only [Gx.nb] at h0
    refine exit (pX (pX (bX (pN (sg (mv rfl (asn rfl (nP (ret (done rfl (.tmp rfl .nil) (retE ?_)))))))))))
    have e : a.take i.toNat = a := List.take_of_length_le (by omega)
    rw [e] at hn
    rw [hn]; rfl
theorem rmeters_n (u : Value) (a : List SMeterConf) (y : SMeterConf) (w : World) (ha : IsSl eMeterConf w u a) : Calls Tryz.prog 57 #[u, eMeterConf.val y] w (RetV w (I (a.countP (SMeterConf.eqb y) : Nat))) := by
  have hal := ha.le
  refine en0 22 Tryz.func57 ?_
  refine sg (cons (box (E := eMeterConf) (.t rfl) (fun b1 => ?_)))
  refine co (Ev.assign (.c (v := I 0) rfl)) ?_
  refine nP (sg (co (Ev.assign (.c (v := I 0) rfl)) ?_))
  refine nP (seq (sg (co (Ev.assign (.c (v := I 0) rfl)) ?_)))
  refine nP (block (lp (X := Int × Nat) (fun x : Int × Nat => (0 ≤ x.1 ∧ x.1 ≤ a.length) ∧ (x.2 = (a.take x.1.toNat).countP (SMeterConf.eqb y))) (fun x : Int × Nat => [dz, (0, true, u), (3, true, .pointer (some ⟨b1, 0, none⟩)), (5, true, I (x.2 : Nat)), (6, true, I x.1)]) (fun x : Int × Nat => [Var b1 eMeterConf y 81]) (fun x : Int × Nat => (a.length - x.1).toNat) (0, 0) ⟨?_, ?_⟩ (fun x hx => ?_)))
  · omega
  · rfl
  obtain ⟨i, n⟩ := x
  obtain ⟨hi, hn⟩ : (0 ≤ i ∧ i ≤ a.length) ∧ (n = (a.take i.toNat).countP (SMeterConf.eqb y)) := hx
  show Sat _ _ [dz, (0, true, u), (3, true, .pointer (some ⟨b1, 0, none⟩)), (5, true, I (n : Nat)), (6, true, I i)] [Var b1 eMeterConf y 81]
  have hnl : n ≤ i.toNat := by rw [hn]; exact Nat.le_trans List.countP_le_length (by simp; omega)
  refine seq (sg (mv rfl (mv rfl (co (Ev.len Tryz.underlying25 (.t rfl) (fun w I => ha.keep0 I.keeps)) ?_))))
  refine co (Ev.lss_i (.t rfl) (.t rfl)) ?_
  refine nP ?_
  first | refine condD rfl (fun h0 => ?_) (fun h0 => ?_) | refine cond rfl (fun h0 => ?_) (fun h0 => ?_)
  · try simp only [Gx.nb] at h0
    refine skip (pN (seq (block (seq (draw' (by kernel_rfl) ?_)))))
    refine tk 0 rfl (Ev.move (.t rfl)) ?_
    refine tk 1 rfl (Ev.move (.t rfl)) ?_
    refine tk 2 rfl (Ev.indexAddr Tryz.underlying25 ty81 (.t rfl) (.t rfl) (fun w I => ha.keep0 I.keeps) (fun _ => by omega)) ?_
    refine tk 3 rfl (Ev.loadS0 ty81 (.t rfl) (fun w I => ha.keep0 I.keeps) (fun _ => by omega)) ?_
    refine tk 4 rfl (Ev.ldx y ty81 (.t rfl) (Lens.id _)) ?_
    refine tk 5 rfl (Ev.eqlS rfl eqok81 rfl (by kernel_rfl) (.t rfl) (.t rfl)) ?_
    refine ovr (pN ?_)
    first | refine condD rfl (fun h1 => ?_) (fun h1 => ?_) | refine cond rfl (fun h1 => ?_) (fun h1 => ?_)
    · have hst : n + 1 = (a.take (i + 1).toNat).countP (SMeterConf.eqb y) := by
        rw [take_snoc a i hi.1 (by omega) eMeterConf.zero, List.countP_append, ← hn]
        have e : a.getD i.toNat eMeterConf.zero = y := (SMeterConf.eqb_iff _ _).1 (by simpa using h1)
        rw [e, List.countP_singleton, (SMeterConf.eqb_iff _ _).2 rfl]
        rfl
      refine region (mv rfl (co (Ev.to (v' := I ((n + 1 : Nat) : Int)) (Ev.add_i (.t rfl) (.c (v := I 1) rfl) (fun _ => by omega)) (congrArg I (by omega))) ?_))
      refine asn rfl (nil (bN (pN (region (mv rfl (co (Ev.add_i (.t rfl) (.c (v := I 1) rfl) (fun _ => by omega)) ?_))))))
      refine asn rfl (nP (nx (X := Int × Nat) (i + 1, _) ⟨?_, ?_⟩ ?_))
      · try dsimp only
        omega
      · try dsimp only
        exact hst
      · try dsimp only
        omega
    · have hst : n = (a.take (i + 1).toNat).countP (SMeterConf.eqb y) := by
        rw [take_snoc a i hi.1 (by omega) eMeterConf.zero, List.countP_append, ← hn]
        have e : ¬ SMeterConf.eqb y (a.getD i.toNat eMeterConf.zero) = true := fun h => by
          have h2 := (SMeterConf.eqb_iff _ _).1 h
          rw [← h2] at h1
          simp [SMeterConf.eqb_self] at h1
        rw [List.countP_singleton, if_neg e]
        rfl
      refine skip (bN (pN (region (mv rfl (co (Ev.add_i (.t rfl) (.c (v := I 1) rfl) (fun _ => by omega)) ?_)))))
      refine asn rfl (nP (nx (X := Int × Nat) (i + 1, _) ⟨?_, ?_⟩ ?_))
      · try dsimp only
        omega
      · try dsimp only
        exact hst
      · try dsimp only
        omega
  · try simp only [Gx.nb] at h0
    refine exit (pX (pX (bX (pN (sg (mv rfl (asn rfl (nP (ret (done rfl (.tmp rfl .nil) (retE ?_)))))))))))
    have e : a.take i.toNat = a := List.take_of_length_le (by omega)
    rw [e] at hn
    rw [hn]; rfl
theorem rmirrors_n (u : Value) (a : List SMirrorConf) (y : SMirrorConf) (w : World) (ha : IsSl eMirrorConf w u a) : Calls Tryz.prog 58 #[u, eMirrorConf.val y] w (RetV w (I (a.countP (SMirrorConf.eqb y) : Nat))) := by
  have hal := ha.le
  refine en0 22 Tryz.func58 ?_
  refine sg (cons (box (E := eMirrorConf) (.t rfl) (fun b1 => ?_)))
  refine co (Ev.assign (.c (v := I 0) rfl)) ?_
  refine nP (sg (co (Ev.assign (.c (v := I 0) rfl)) ?_))
  refine nP (seq (sg (co (Ev.assign (.c (v := I 0) rfl)) ?_)))
  refine nP (block (lp (X := Int × Nat) (fun x : Int × Nat => (0 ≤ x.1 ∧ x.1 ≤ a.length) ∧ (x.2 = (a.take x.1.toNat).countP (SMirrorConf.eqb y))) (fun x : Int × Nat => [dz, (0, true, u), (3, true, .pointer (some ⟨b1, 0, none⟩)), (5, true, I (x.2 : Nat)), (6, true, I x.1)]) (fun x : Int × Nat => [Var b1 eMirrorConf y 83]) (fun x : Int × Nat => (a.length - x.1).toNat) (0, 0) ⟨?_, ?_⟩ (fun x hx => ?_)))
  · omega
  · rfl
  obtain ⟨i, n⟩ := x
  obtain ⟨hi, hn⟩ : (0 ≤ i ∧ i ≤ a.length) ∧ (n = (a.take i.toNat).countP (SMirrorConf.eqb y)) := hx
  show Sat _ _ [dz, (0, true, u), (3, true, .pointer (some ⟨b1, 0, none⟩)), (5, true, I (n : Nat)), (6, true, I i)] [Var b1 eMirrorConf y 83]
  have hnl : n ≤ i.toNat := by rw [hn]; exact Nat.le_trans List.countP_le_length (by simp; omega)
  refine seq (sg (mv rfl (mv rfl (co (Ev.len Tryz.underlying26 (.t rfl) (fun w I => ha.keep0 I.keeps)) ?_))))
  refine co (Ev.lss_i (.t rfl) (.t rfl)) ?_
  refine nP ?_
  first | refine condD rfl (fun h0 => ?_) (fun h0 => ?_) | refine cond rfl (fun h0 => ?_) (fun h0 => ?_)
  · try simp only [Gx.nb] at h0
    refine skip (pN (seq (block (seq (draw' (by kernel_rfl) ?_)))))
    refine tk 0 rfl (Ev.move (.t rfl)) ?_
    refine tk 1 rfl (Ev.move (.t rfl)) ?_
    refine tk 2 rfl (Ev.indexAddr Tryz.underlying26 ty83 (.t rfl) (.t rfl) (fun w I => ha.keep0 I.keeps) (fun _ => by omega)) ?_
    refine tk 3 rfl (Ev.loadS0 ty83 (.t rfl) (fun w I => ha.keep0 I.keeps) (fun _ => by omega)) ?_
    refine tk 4 rfl (Ev.ldx y ty83 (.t rfl) (Lens.id _)) ?_
    refine tk 5 rfl (Ev.eqlS rfl eqok83 rfl (by kernel_rfl) (.t rfl) (.t rfl)) ?_
    refine ovr (pN ?_)
    first | refine condD rfl (fun h1 => ?_) (fun h1 => ?_) | refine cond rfl (fun h1 => ?_) (fun h1 => ?_)
    · have hst : n + 1 = (a.take (i + 1).toNat).countP (SMirrorConf.eqb y) := by
        rw [take_snoc a i hi.1 (by omega) eMirrorConf.zero, List.countP_append, ← hn]
        have e : a.getD i.toNat eMirrorConf.zero = y := (SMirrorConf.eqb_iff _ _).1 (by simpa using h1)
        rw [e, List.countP_singleton, (SMirrorConf.eqb_iff _ _).2 rfl]
        rfl
      refine region (mv rfl (co (Ev.to (v' := I ((n + 1 : Nat) : Int)) (Ev.add_i (.t rfl) (.c (v := I 1) rfl) (fun _ => by omega)) (congrArg I (by omega))) ?_))
      refine asn rfl (nil (bN (pN (region (mv rfl (co (Ev.add_i (.t rfl) (.c (v := I 1) rfl) (fun _ => by omega)) ?_))))))
      refine asn rfl (nP (nx (X := Int × Nat) (i + 1, _) ⟨?_, ?_⟩ ?_))
      · try dsimp only
        omega
      · try dsimp only
        exact hst
      · try dsimp only
        omega
    · have hst : n = (a.take (i + 1).toNat).countP (SMirrorConf.eqb y) := by
        rw [take_snoc a i hi.1 (by omega) eMirrorConf.zero, List.countP_append, ← hn]
        have e : ¬ SMirrorConf.eqb y (a.getD i.toNat eMirrorConf.zero) = true := fun h => by
          have h2 := (SMirrorConf.eqb_iff _ _).1 h
          rw [← h2] at h1
          simp [SMirrorConf.eqb_self] at h1
        rw [List.countP_singleton, if_neg e]
        rfl
      refine skip (bN (pN (region (mv rfl (co (Ev.add_i (.t rfl) (.c (v := I 1) rfl) (fun _ => by omega)) ?_)))))
      refine asn rfl (nP (nx (X := Int × Nat) (i + 1, _) ⟨?_, ?_⟩ ?_))
      · try dsimp only
        omega
      · try dsimp only
        exact hst
      · try dsimp only
        omega
  · try simp only [Gx.nb] at h0
    refine exit (pX (pX (bX (pN (sg (mv rfl (asn rfl (nP (ret (done rfl (.tmp rfl .nil) (retE ?_)))))))))))
    have e : a.take i.toNat = a := List.take_of_length_le (by omega)
    rw [e] at hn
    rw [hn]; rfl
end Go.Proofs.YtmdkmclgfgaahaaGreat
namespace Go.Proofs.YtmdkmclgfgaahaaGreat
open Go Go.Gx Go.Proofs.YtmdkmclgfgaahaaGreat.Tri
def hdrB (a b : CL) (d e : Int) : Bool := decide (d = e ∧ a.ps = b.ps ∧ a.us = b.us ∧ a.rs.length = b.rs.length ∧ a.ms.length = b.ms.length ∧ a.xs.length = b.xs.length)
def cntB {α : Type} (q : α → α → Bool) (l k : List α) : Bool := l.all (fun x => decide (l.countP (q x) = k.countP (q x)))
theorem sameB_R (a b : CL) (d e : Int) : sameB a b d e = (hdrB a b d e && (cntB SRoute.eqb a.rs b.rs && (cntB SMeterConf.eqb a.ms b.ms && cntB SMirrorConf.eqb a.xs b.xs))) := by
  unfold sameB
  rw [← alikeR_eq SRoute.eqb_iff, ← alikeR_eq SMeterConf.eqb_iff, ← alikeR_eq SMirrorConf.eqb_iff]
  unfold alikeR hdrB
  simp only [Bool.decide_and]
  show _ = (_ && (cntB _ _ _ && (cntB _ _ _ && cntB _ _ _)))
  unfold cntB
  ac_rfl
theorem cntB_no {α : Type} {q : α → α → Bool} {l k : List α} (z : α) (i : Nat) (h : i < l.length) (hn : ¬ l.countP (q (l.getD i z)) = k.countP (q (l.getD i z))) : cntB q l k = false := by
  unfold cntB
  exact List.all_eq_false.2 ⟨l.getD i z, getD_in _ _ _ h, by simpa using hn⟩
theorem cntB_yes {α : Type} {q : α → α → Bool} {l k : List α} (z : α) (h : ∀ j, j < l.length → l.countP (q (l.getD j z)) = k.countP (q (l.getD j z))) : cntB q l k = true := by
  unfold cntB
  rw [List.all_eq_true]
  intro x hx
  obtain ⟨j, hj, rfl⟩ := List.mem_iff_getElem.1 hx
  have := h j hj
  simpa [List.getD, hj] using this
def exactB (a b : CL) (d e : Int) : Bool := decide (d = e ∧ a.ps = b.ps ∧ a.us = b.us ∧ a.rs = b.rs ∧ a.ms = b.ms ∧ a.xs = b.xs)
theorem exactB_self (a : CL) (d : Int) : exactB a a d d = true := decide_eq_true ⟨rfl, rfl, rfl, rfl, rfl, rfl⟩
theorem sameB_perm (a b : CL) (d e : Int) : sameB a b d e = true ↔ d = e ∧ a.ps = b.ps ∧ a.us = b.us ∧ a.rs.Perm b.rs ∧ a.ms.Perm b.ms ∧ a.xs.Perm b.xs := by
  unfold sameB
  simp only [Bool.and_eq_true, decide_eq_true_iff, alike_perm SRoute.eqb_iff, alike_perm SMeterConf.eqb_iff, alike_perm SMirrorConf.eqb_iff]
theorem eq_getD {α : Type} {l k : List α} (z : α) (h : l.length = k.length) (hq : ∀ j, j < l.length → l.getD j z = k.getD j z) : l = k := by
  refine List.ext_getElem h fun j h1 h2 => ?_
  have := hq j h1
  simpa [List.getD, h1, h2] using this
theorem en54 : Gx.Enters Tryz.prog 54 := Gx.Enters.mk' (by kernel_rfl)
theorem en55 : Gx.Enters Tryz.prog 55 := Gx.Enters.mk' (by kernel_rfl)
theorem en56 : Gx.Enters Tryz.prog 56 := Gx.Enters.mk' (by kernel_rfl)
theorem en57 : Gx.Enters Tryz.prog 57 := Gx.Enters.mk' (by kernel_rfl)
theorem en58 : Gx.Enters Tryz.prog 58 := Gx.Enters.mk' (by kernel_rfl)
set_option maxRecDepth 8000 in
theorem rsame_ok (a b : SConf) (l k : CL) (w : World) (ha : ConfAt w a l) (hb : ConfAt w b k) : Calls Tryz.prog 30 #[eConf.val a, eConf.val b] w (RetV w (.bool (sameB l k a.default b.default))) := by
  have hla0 := ha.ps.le
  have hlb0 := hb.ps.le
  have hla1 := ha.rs.le
  have hlb1 := hb.rs.le
  have hla2 := ha.us.le
  have hlb2 := hb.us.le
  have hla3 := ha.ms.le
  have hlb3 := hb.ms.le
  have hla4 := ha.xs.le
  have hlb4 := hb.xs.le
  refine en0 128 Tryz.func30 ?_
  refine sg (cons (box (E := eConf) (.t rfl) (fun b1 => ?_)))
  refine cons (box (E := eConf) (.t rfl) (fun b2 => ?_))
  refine co (Ev.assign (.c (v := .bool false) rfl)) ?_
  refine nP (seq (sg (co (fA 5 (.t rfl)) ?_)))
  refine co (Ev.ldx a.default ty3 (.t rfl) SConf.l_default) ?_
  refine co (fA 5 (.t rfl)) ?_
  refine co (Ev.ldx b.default ty3 (.t rfl) SConf.l_default) ?_
  refine co (Ev.neq_i (.t rfl) (.t rfl)) ?_
  refine mv rfl (cg rfl rfl (fA 0 (.t rfl)) ?_)
  refine cg rfl rfl (Ev.ldx a.ports ty22 (.g rfl id) SConf.l_ports) ?_
  refine cg rfl rfl (fA 0 (.t rfl)) ?_
  refine cg rfl rfl (Ev.ldx b.ports ty22 (.g rfl id) SConf.l_ports) ?_
  refine cons (callg rfl rfl en54 (.cons (.g rfl id) (.cons (.g rfl id) .nil)) (fun hg w I => samePorts_ok _ _ _ _ w ((ha.keep0 I.keeps).ps) ((hb.keep0 I.keeps).ps)) ?_)
  refine cg rfl rfl (Ev.not (.g rfl id)) ?_
  refine co (Ev.pkO (.t rfl) rfl) ?_
  refine mv rfl (cg rfl rfl (fA 2 (.t rfl)) ?_)
  refine cg rfl rfl (Ev.ldx a.rules ty24 (.g rfl id) SConf.l_rules) ?_
  refine cg rfl rfl (fA 2 (.t rfl)) ?_
  refine cg rfl rfl (Ev.ldx b.rules ty24 (.g rfl id) SConf.l_rules) ?_
  refine cons (callg rfl rfl en55 (.cons (.g rfl id) (.cons (.g rfl id) .nil)) (fun hg w I => sameRules_ok _ _ _ _ w ((ha.keep0 I.keeps).us) ((hb.keep0 I.keeps).us)) ?_)
  refine cg rfl rfl (Ev.not (.g rfl id)) ?_
  refine co (Ev.pkO (.t rfl) rfl) ?_
  refine mv rfl (cg rfl rfl (fA 1 (.t rfl)) ?_)
  refine cg rfl rfl (Ev.ldx a.routes ty23 (.g rfl id) SConf.l_routes) ?_
  refine cg rfl rfl (Ev.len Tryz.underlying23 (.g rfl id) (fun w I => (ha.keep0 I.keeps).rs)) ?_
  refine cg rfl rfl (fA 1 (.t rfl)) ?_
  refine cg rfl rfl (Ev.ldx b.routes ty23 (.g rfl id) SConf.l_routes) ?_
  refine cg rfl rfl (Ev.len Tryz.underlying23 (.g rfl id) (fun w I => (hb.keep0 I.keeps).rs)) ?_
  refine cg rfl rfl (Ev.neq_i (.g rfl id) (.g rfl id)) ?_
  refine co (Ev.pkO (.t rfl) rfl) ?_
  refine mv rfl (cg rfl rfl (fA 3 (.t rfl)) ?_)
  refine cg rfl rfl (Ev.ldx a.meters ty25 (.g rfl id) SConf.l_meters) ?_
  refine cg rfl rfl (Ev.len Tryz.underlying25 (.g rfl id) (fun w I => (ha.keep0 I.keeps).ms)) ?_
  refine cg rfl rfl (fA 3 (.t rfl)) ?_
  refine cg rfl rfl (Ev.ldx b.meters ty25 (.g rfl id) SConf.l_meters) ?_
  refine cg rfl rfl (Ev.len Tryz.underlying25 (.g rfl id) (fun w I => (hb.keep0 I.keeps).ms)) ?_
  refine cg rfl rfl (Ev.neq_i (.g rfl id) (.g rfl id)) ?_
  refine co (Ev.pkO (.t rfl) rfl) ?_
  refine mv rfl (cg rfl rfl (fA 4 (.t rfl)) ?_)
  refine cg rfl rfl (Ev.ldx a.mirrors ty26 (.g rfl id) SConf.l_mirrors) ?_
  refine cg rfl rfl (Ev.len Tryz.underlying26 (.g rfl id) (fun w I => (ha.keep0 I.keeps).xs)) ?_
  refine cg rfl rfl (fA 4 (.t rfl)) ?_
  refine cg rfl rfl (Ev.ldx b.mirrors ty26 (.g rfl id) SConf.l_mirrors) ?_
  refine cg rfl rfl (Ev.len Tryz.underlying26 (.g rfl id) (fun w I => (hb.keep0 I.keeps).xs)) ?_
  refine cg rfl rfl (Ev.neq_i (.g rfl id) (.g rfl id)) ?_
  refine co (Ev.pkO (.t rfl) rfl) ?_
  refine nP ?_
  first | refine condD rfl (fun h0 => ?_) (fun h0 => ?_) | refine cond rfl (fun h0 => ?_) (fun h0 => ?_)
  · refine sg (co (Ev.assign (.c (v := .bool false) rfl)) ?_)
    refine nP (ret (pR (done rfl (.tmp rfl .nil) (retE ?_))))
    have hh : hdrB l k a.default b.default = false := by
      rw [Bool.eq_false_iff]
      intro h
      obtain ⟨e1, e2, e3, e4, e5, e6⟩ := of_decide_eq_true h
      simp [e1, e2, e3, e4, e5, e6] at h0
    rw [sameB_R, hh]; rfl
  · have hhd : hdrB l k a.default b.default = true := by
      simp at h0
      exact decide_eq_true ⟨h0.1.1.1.1.1, h0.1.1.1.1.2, h0.1.1.1.2, by omega, by omega, by omega⟩
    refine skip (pN (seq (sg (co (Ev.assign (.c (v := I 0) rfl)) ?_))))
    refine nP (block (lp (X := Int) (fun x : Int => (0 ≤ x ∧ x ≤ l.rs.length) ∧ (∀ j : Nat, j < x → l.rs.countP (SRoute.eqb (l.rs.getD j eRoute.zero)) = k.rs.countP (SRoute.eqb (l.rs.getD j eRoute.zero)))) (fun x : Int => [dz, (2, true, .pointer (some ⟨b1, 0, none⟩)), (3, true, .pointer (some ⟨b2, 0, none⟩)), (5, true, I x)]) (fun x : Int => [Var b2 eConf b 28, Var b1 eConf a 28]) (fun x : Int => (l.rs.length - x).toNat) (0) ⟨?_, ?_⟩ (fun x hx => ?_)))
    · omega
    · intro j h; omega
    obtain ⟨i0, rfl⟩ : ∃ y, y = x := ⟨x, rfl⟩
    obtain ⟨hi0, hq0⟩ : (0 ≤ i0 ∧ i0 ≤ l.rs.length) ∧ (∀ j : Nat, j < i0 → l.rs.countP (SRoute.eqb (l.rs.getD j eRoute.zero)) = k.rs.countP (SRoute.eqb (l.rs.getD j eRoute.zero))) := hx
    show Sat _ _ [dz, (2, true, .pointer (some ⟨b1, 0, none⟩)), (3, true, .pointer (some ⟨b2, 0, none⟩)), (5, true, I i0)] [Var b2 eConf b 28, Var b1 eConf a 28]
    refine seq (sg (mv rfl (co (fA 1 (.t rfl)) ?_)))
    refine co (Ev.ldx a.routes ty23 (.t rfl) SConf.l_routes) ?_
    refine co (Ev.len Tryz.underlying23 (.t rfl) (fun w I => (ha.keep0 I.keeps).rs)) ?_
    refine co (Ev.lss_i (.t rfl) (.t rfl)) ?_
    refine nP ?_
    first | refine condD rfl (fun h1 => ?_) (fun h1 => ?_) | refine cond rfl (fun h1 => ?_) (fun h1 => ?_)
    · try simp only [Gx.nb] at h1
      refine skip (pN (seq (block (seq (draw' (by kernel_rfl) ?_)))))
      refine tk 0 rfl (fA 1 (.t rfl)) ?_
      refine tk 1 rfl (Ev.ldx a.routes ty23 (.t rfl) SConf.l_routes) ?_
      refine tk 2 rfl (fA 1 (.t rfl)) ?_
      refine tk 3 rfl (Ev.ldx a.routes ty23 (.t rfl) SConf.l_routes) ?_
      refine tk 4 rfl (Ev.move (.t rfl)) ?_
      refine tk 5 rfl (Ev.indexAddr Tryz.underlying23 ty102 (.t rfl) (.t rfl) (fun w I => (ha.keep0 I.keeps).rs) (fun _ => by omega)) ?_
      refine tk 6 rfl (Ev.loadS0 ty102 (.t rfl) (fun w I => (ha.keep0 I.keeps).rs) (fun _ => by omega)) ?_
      refine tk 8 rfl (fA 1 (.t rfl)) ?_
      refine tk 9 rfl (Ev.ldx b.routes ty23 (.t rfl) SConf.l_routes) ?_
      refine tk 10 rfl (fA 1 (.t rfl)) ?_
      refine tk 11 rfl (Ev.ldx a.routes ty23 (.t rfl) SConf.l_routes) ?_
      refine tk 12 rfl (Ev.move (.t rfl)) ?_
      refine tk 13 rfl (Ev.indexAddr Tryz.underlying23 ty102 (.t rfl) (.t rfl) (fun w I => (ha.keep0 I.keeps).rs) (fun _ => by omega)) ?_
      refine tk 14 rfl (Ev.loadS0 ty102 (.t rfl) (fun w I => (ha.keep0 I.keeps).rs) (fun _ => by omega)) ?_
      refine al1 7 rfl ((callv en56 (.cons (.t rfl) (.cons (.t rfl) .nil)) (fun w I => rroutes_n _ _ _ w ((ha.keep0 I.keeps).rs)) ?_))
      refine hdn (al1 15 rfl ((callv en56 (.cons (.t rfl) (.cons (.t rfl) .nil)) (fun w I => rroutes_n _ _ _ w ((hb.keep0 I.keeps).rs)) ?_)))
      refine hdn (tk 16 rfl (Ev.neq_i (.t rfl) (.t rfl)) ?_)
      refine ovr (pN ?_)
      first | refine condD rfl (fun h2 => ?_) (fun h2 => ?_) | refine cond rfl (fun h2 => ?_) (fun h2 => ?_)
      · replace h2 : ¬ l.rs.countP (SRoute.eqb (l.rs.getD i0.toNat eRoute.zero)) = k.rs.countP (SRoute.eqb (l.rs.getD i0.toNat eRoute.zero)) := by omega
        refine sg (co (Ev.assign (.c (v := .bool false) rfl)) ?_)
        refine nP (ret (bR (pR (pR (bR (pR (done rfl (.tmp rfl .nil) (retE ?_))))))))
        have hh : cntB SRoute.eqb l.rs k.rs = false := cntB_no eRoute.zero i0.toNat (by omega) h2
        rw [sameB_R, hh]; simp [tupV]
      · replace h2 : l.rs.countP (SRoute.eqb (l.rs.getD i0.toNat eRoute.zero)) = k.rs.countP (SRoute.eqb (l.rs.getD i0.toNat eRoute.zero)) := by omega
        refine skip (bN (pN (region (mv rfl (co (Ev.add_i (.t rfl) (.c (v := I 1) rfl) (fun _ => by omega)) ?_)))))
        refine asn rfl (nP (nx (X := Int) (i0 + 1) ⟨?_, ?_⟩ ?_))
        · try dsimp only
          omega
        · try dsimp only
          intro j h
          by_cases e : (j : Int) < i0
          · exact hq0 j e
          · obtain rfl : j = i0.toNat := by omega
            exact h2
        · try dsimp only
          omega
    · try simp only [Gx.nb] at h1
      refine exit (pX (pX (bX (pN (seq (sg (co (Ev.assign (.c (v := I 0) rfl)) ?_)))))))
      refine nP (block (lp (X := Int) (fun x : Int => (0 ≤ x ∧ x ≤ l.ms.length) ∧ (∀ j : Nat, j < x → l.ms.countP (SMeterConf.eqb (l.ms.getD j eMeterConf.zero)) = k.ms.countP (SMeterConf.eqb (l.ms.getD j eMeterConf.zero)))) (fun x : Int => [dz, (2, true, .pointer (some ⟨b1, 0, none⟩)), (3, true, .pointer (some ⟨b2, 0, none⟩)), (6, true, I x)]) (fun x : Int => [Var b2 eConf b 28, Var b1 eConf a 28]) (fun x : Int => (l.ms.length - x).toNat) (0) ⟨?_, ?_⟩ (fun x hx => ?_)))
      · omega
      · intro j h; omega
      obtain ⟨i1, rfl⟩ : ∃ y, y = x := ⟨x, rfl⟩
      obtain ⟨hi1, hq1⟩ : (0 ≤ i1 ∧ i1 ≤ l.ms.length) ∧ (∀ j : Nat, j < i1 → l.ms.countP (SMeterConf.eqb (l.ms.getD j eMeterConf.zero)) = k.ms.countP (SMeterConf.eqb (l.ms.getD j eMeterConf.zero))) := hx
      show Sat _ _ [dz, (2, true, .pointer (some ⟨b1, 0, none⟩)), (3, true, .pointer (some ⟨b2, 0, none⟩)), (6, true, I i1)] [Var b2 eConf b 28, Var b1 eConf a 28]
      refine seq (sg (mv rfl (co (fA 3 (.t rfl)) ?_)))
      refine co (Ev.ldx a.meters ty25 (.t rfl) SConf.l_meters) ?_
      refine co (Ev.len Tryz.underlying25 (.t rfl) (fun w I => (ha.keep0 I.keeps).ms)) ?_
      refine co (Ev.lss_i (.t rfl) (.t rfl)) ?_
      refine nP ?_
      first | refine condD rfl (fun h3 => ?_) (fun h3 => ?_) | refine cond rfl (fun h3 => ?_) (fun h3 => ?_)
      · try simp only [Gx.nb] at h3
        refine skip (pN (seq (block (seq (draw' (by kernel_rfl) ?_)))))
        refine tk 0 rfl (fA 3 (.t rfl)) ?_
        refine tk 1 rfl (Ev.ldx a.meters ty25 (.t rfl) SConf.l_meters) ?_
        refine tk 2 rfl (fA 3 (.t rfl)) ?_
        refine tk 3 rfl (Ev.ldx a.meters ty25 (.t rfl) SConf.l_meters) ?_
        refine tk 4 rfl (Ev.move (.t rfl)) ?_
        refine tk 5 rfl (Ev.indexAddr Tryz.underlying25 ty81 (.t rfl) (.t rfl) (fun w I => (ha.keep0 I.keeps).ms) (fun _ => by omega)) ?_
        refine tk 6 rfl (Ev.loadS0 ty81 (.t rfl) (fun w I => (ha.keep0 I.keeps).ms) (fun _ => by omega)) ?_
        refine tk 8 rfl (fA 3 (.t rfl)) ?_
        refine tk 9 rfl (Ev.ldx b.meters ty25 (.t rfl) SConf.l_meters) ?_
        refine tk 10 rfl (fA 3 (.t rfl)) ?_
        refine tk 11 rfl (Ev.ldx a.meters ty25 (.t rfl) SConf.l_meters) ?_
        refine tk 12 rfl (Ev.move (.t rfl)) ?_
        refine tk 13 rfl (Ev.indexAddr Tryz.underlying25 ty81 (.t rfl) (.t rfl) (fun w I => (ha.keep0 I.keeps).ms) (fun _ => by omega)) ?_
        refine tk 14 rfl (Ev.loadS0 ty81 (.t rfl) (fun w I => (ha.keep0 I.keeps).ms) (fun _ => by omega)) ?_
        refine al1 7 rfl ((callv en57 (.cons (.t rfl) (.cons (.t rfl) .nil)) (fun w I => rmeters_n _ _ _ w ((ha.keep0 I.keeps).ms)) ?_))
        refine hdn (al1 15 rfl ((callv en57 (.cons (.t rfl) (.cons (.t rfl) .nil)) (fun w I => rmeters_n _ _ _ w ((hb.keep0 I.keeps).ms)) ?_)))
        refine hdn (tk 16 rfl (Ev.neq_i (.t rfl) (.t rfl)) ?_)
        refine ovr (pN ?_)
        first | refine condD rfl (fun h4 => ?_) (fun h4 => ?_) | refine cond rfl (fun h4 => ?_) (fun h4 => ?_)
        · replace h4 : ¬ l.ms.countP (SMeterConf.eqb (l.ms.getD i1.toNat eMeterConf.zero)) = k.ms.countP (SMeterConf.eqb (l.ms.getD i1.toNat eMeterConf.zero)) := by omega
          refine sg (co (Ev.assign (.c (v := .bool false) rfl)) ?_)
          refine nP (ret (bR (pR (pR (bR (pR (done rfl (.tmp rfl .nil) (retE ?_))))))))
          have hh : cntB SMeterConf.eqb l.ms k.ms = false := cntB_no eMeterConf.zero i1.toNat (by omega) h4
          rw [sameB_R, hh]; simp [tupV]
        · replace h4 : l.ms.countP (SMeterConf.eqb (l.ms.getD i1.toNat eMeterConf.zero)) = k.ms.countP (SMeterConf.eqb (l.ms.getD i1.toNat eMeterConf.zero)) := by omega
          refine skip (bN (pN (region (mv rfl (co (Ev.add_i (.t rfl) (.c (v := I 1) rfl) (fun _ => by omega)) ?_)))))
          refine asn rfl (nP (nx (X := Int) (i1 + 1) ⟨?_, ?_⟩ ?_))
          · try dsimp only
            omega
          · try dsimp only
            intro j h
            by_cases e : (j : Int) < i1
            · exact hq1 j e
            · obtain rfl : j = i1.toNat := by omega
              exact h4
          · try dsimp only
            omega
      · try simp only [Gx.nb] at h3
        refine exit (pX (pX (bX (pN (seq (sg (co (Ev.assign (.c (v := I 0) rfl)) ?_)))))))
        refine nP (block (lp (X := Int) (fun x : Int => (0 ≤ x ∧ x ≤ l.xs.length) ∧ (∀ j : Nat, j < x → l.xs.countP (SMirrorConf.eqb (l.xs.getD j eMirrorConf.zero)) = k.xs.countP (SMirrorConf.eqb (l.xs.getD j eMirrorConf.zero)))) (fun x : Int => [dz, (2, true, .pointer (some ⟨b1, 0, none⟩)), (3, true, .pointer (some ⟨b2, 0, none⟩)), (7, true, I x)]) (fun x : Int => [Var b2 eConf b 28, Var b1 eConf a 28]) (fun x : Int => (l.xs.length - x).toNat) (0) ⟨?_, ?_⟩ (fun x hx => ?_)))
        · omega
        · intro j h; omega
        obtain ⟨i2, rfl⟩ : ∃ y, y = x := ⟨x, rfl⟩
        obtain ⟨hi2, hq2⟩ : (0 ≤ i2 ∧ i2 ≤ l.xs.length) ∧ (∀ j : Nat, j < i2 → l.xs.countP (SMirrorConf.eqb (l.xs.getD j eMirrorConf.zero)) = k.xs.countP (SMirrorConf.eqb (l.xs.getD j eMirrorConf.zero))) := hx
        show Sat _ _ [dz, (2, true, .pointer (some ⟨b1, 0, none⟩)), (3, true, .pointer (some ⟨b2, 0, none⟩)), (7, true, I i2)] [Var b2 eConf b 28, Var b1 eConf a 28]
        refine seq (sg (mv rfl (co (fA 4 (.t rfl)) ?_)))
        refine co (Ev.ldx a.mirrors ty26 (.t rfl) SConf.l_mirrors) ?_
        refine co (Ev.len Tryz.underlying26 (.t rfl) (fun w I => (ha.keep0 I.keeps).xs)) ?_
        refine co (Ev.lss_i (.t rfl) (.t rfl)) ?_
        refine nP ?_
        first | refine condD rfl (fun h5 => ?_) (fun h5 => ?_) | refine cond rfl (fun h5 => ?_) (fun h5 => ?_)
        · try simp only [Gx.nb] at h5
          refine skip (pN (seq (block (seq (draw' (by kernel_rfl) ?_)))))
          refine tk 0 rfl (fA 4 (.t rfl)) ?_
          refine tk 1 rfl (Ev.ldx a.mirrors ty26 (.t rfl) SConf.l_mirrors) ?_
          refine tk 2 rfl (fA 4 (.t rfl)) ?_
          refine tk 3 rfl (Ev.ldx a.mirrors ty26 (.t rfl) SConf.l_mirrors) ?_
          refine tk 4 rfl (Ev.move (.t rfl)) ?_
          refine tk 5 rfl (Ev.indexAddr Tryz.underlying26 ty83 (.t rfl) (.t rfl) (fun w I => (ha.keep0 I.keeps).xs) (fun _ => by omega)) ?_
          refine tk 6 rfl (Ev.loadS0 ty83 (.t rfl) (fun w I => (ha.keep0 I.keeps).xs) (fun _ => by omega)) ?_
          refine tk 8 rfl (fA 4 (.t rfl)) ?_
          refine tk 9 rfl (Ev.ldx b.mirrors ty26 (.t rfl) SConf.l_mirrors) ?_
          refine tk 10 rfl (fA 4 (.t rfl)) ?_
          refine tk 11 rfl (Ev.ldx a.mirrors ty26 (.t rfl) SConf.l_mirrors) ?_
          refine tk 12 rfl (Ev.move (.t rfl)) ?_
          refine tk 13 rfl (Ev.indexAddr Tryz.underlying26 ty83 (.t rfl) (.t rfl) (fun w I => (ha.keep0 I.keeps).xs) (fun _ => by omega)) ?_
          refine tk 14 rfl (Ev.loadS0 ty83 (.t rfl) (fun w I => (ha.keep0 I.keeps).xs) (fun _ => by omega)) ?_
          refine al1 7 rfl ((callv en58 (.cons (.t rfl) (.cons (.t rfl) .nil)) (fun w I => rmirrors_n _ _ _ w ((ha.keep0 I.keeps).xs)) ?_))
          refine hdn (al1 15 rfl ((callv en58 (.cons (.t rfl) (.cons (.t rfl) .nil)) (fun w I => rmirrors_n _ _ _ w ((hb.keep0 I.keeps).xs)) ?_)))
          refine hdn (tk 16 rfl (Ev.neq_i (.t rfl) (.t rfl)) ?_)
          refine ovr (pN ?_)
          first | refine condD rfl (fun h6 => ?_) (fun h6 => ?_) | refine cond rfl (fun h6 => ?_) (fun h6 => ?_)
          · replace h6 : ¬ l.xs.countP (SMirrorConf.eqb (l.xs.getD i2.toNat eMirrorConf.zero)) = k.xs.countP (SMirrorConf.eqb (l.xs.getD i2.toNat eMirrorConf.zero)) := by omega
            refine sg (co (Ev.assign (.c (v := .bool false) rfl)) ?_)
            refine nP (ret (bR (pR (pR (bR (pR (done rfl (.tmp rfl .nil) (retE ?_))))))))
            have hh : cntB SMirrorConf.eqb l.xs k.xs = false := cntB_no eMirrorConf.zero i2.toNat (by omega) h6
            rw [sameB_R, hh]; simp [tupV]
          · replace h6 : l.xs.countP (SMirrorConf.eqb (l.xs.getD i2.toNat eMirrorConf.zero)) = k.xs.countP (SMirrorConf.eqb (l.xs.getD i2.toNat eMirrorConf.zero)) := by omega
            refine skip (bN (pN (region (mv rfl (co (Ev.add_i (.t rfl) (.c (v := I 1) rfl) (fun _ => by omega)) ?_)))))
            refine asn rfl (nP (nx (X := Int) (i2 + 1) ⟨?_, ?_⟩ ?_))
            · try dsimp only
              omega
            · try dsimp only
              intro j h
              by_cases e : (j : Int) < i2
              · exact hq2 j e
              · obtain rfl : j = i2.toNat := by omega
                exact h6
            · try dsimp only
              omega
        · try simp only [Gx.nb] at h5
          refine exit (pX (pX (bX (pN (sg (co (Ev.assign (.c (v := .bool true) rfl)) ?_))))))
          refine nP (ret (done rfl (.tmp rfl .nil) (retE ?_)))
          rw [sameB_R, hhd, cntB_yes eRoute.zero (fun j hj => hq0 j (by omega)), cntB_yes eMeterConf.zero (fun j hj => hq1 j (by omega)), cntB_yes eMirrorConf.zero (fun j hj => hq2 j (by omega))]; rfl
end Go.Proofs.YtmdkmclgfgaahaaGreat
namespace Go.Proofs.YtmdkmclgfgaahaaGreat
open Go Go.Gx Go.Proofs.YtmdkmclgfgaahaaGreat.Tri
theorem en30 : Gx.Enters Tryz.prog 30 := Gx.Enters.mk' (by kernel_rfl)
set_option maxRecDepth 8000 in
theorem rexact_ok (a b : SConf) (l k : CL) (w : World) (ha : ConfAt w a l) (hb : ConfAt w b k) : Calls Tryz.prog 12 #[eConf.val a, eConf.val b] w (RetV w (.bool (exactB l k a.default b.default))) := by
  have hla0 := ha.ps.le
  have hlb0 := hb.ps.le
  have hla1 := ha.rs.le
  have hlb1 := hb.rs.le
  have hla2 := ha.us.le
  have hlb2 := hb.us.le
  have hla3 := ha.ms.le
  have hlb3 := hb.ms.le
  have hla4 := ha.xs.le
  have hlb4 := hb.xs.le
  refine en0 66 Tryz.func12 ?_
  refine sg (cons (box (E := eConf) (.t rfl) (fun b1 => ?_)))
  refine cons (box (E := eConf) (.t rfl) (fun b2 => ?_))
  refine co (Ev.assign (.c (v := .bool false) rfl)) ?_
  refine nP (seq (sg (co (Ev.ldx a ty28 (.t rfl) (Lens.id _)) ?_)))
  refine co (Ev.ldx b ty28 (.t rfl) (Lens.id _)) ?_
  refine cons (callv en30 (.cons (.t rfl) (.cons (.t rfl) .nil)) (fun w I => rsame_ok a b l k w (ha.keep0 I.keeps) (hb.keep0 I.keeps)) ?_)
  refine co (Ev.not (.t rfl)) ?_
  refine nP ?_
  first | refine condD rfl (fun h0 => ?_) (fun h0 => ?_) | refine cond rfl (fun h0 => ?_) (fun h0 => ?_)
  · refine sg (co (Ev.assign (.c (v := .bool false) rfl)) ?_)
    refine nP (ret (pR (done rfl (.tmp rfl .nil) (retE ?_))))
    have hh : exactB l k a.default b.default = false := by
      rw [Bool.eq_false_iff]
      intro h
      obtain ⟨e1, e2, e3, e4, e5, e6⟩ := of_decide_eq_true h
      have hp := (sameB_perm l k a.default b.default).2 ⟨e1, e2, e3, by rw [e4], by rw [e5], by rw [e6]⟩
      simp [hp] at h0
    rw [hh]; rfl
  · have hsm := (sameB_perm l k a.default b.default).1 (by simpa using h0)
    have hn4 := hsm.2.2.2.1.length_eq
    have hn5 := hsm.2.2.2.2.1.length_eq
    have hn6 := hsm.2.2.2.2.2.length_eq
    refine skip (pN (seq (sg (co (Ev.assign (.c (v := I 0) rfl)) ?_))))
    refine nP (block (lp (X := Int) (fun x : Int => (0 ≤ x ∧ x ≤ l.rs.length) ∧ (∀ j : Nat, j < x → l.rs.getD j eRoute.zero = k.rs.getD j eRoute.zero)) (fun x : Int => [dz, (2, true, .pointer (some ⟨b1, 0, none⟩)), (3, true, .pointer (some ⟨b2, 0, none⟩)), (5, true, I x)]) (fun x : Int => [Var b2 eConf b 28, Var b1 eConf a 28]) (fun x : Int => (l.rs.length - x).toNat) (0) ⟨?_, ?_⟩ (fun x hx => ?_)))
    · omega
    · intro j h; omega
    obtain ⟨i0, rfl⟩ : ∃ y, y = x := ⟨x, rfl⟩
    obtain ⟨hi0, hq0⟩ : (0 ≤ i0 ∧ i0 ≤ l.rs.length) ∧ (∀ j : Nat, j < i0 → l.rs.getD j eRoute.zero = k.rs.getD j eRoute.zero) := hx
    show Sat _ _ [dz, (2, true, .pointer (some ⟨b1, 0, none⟩)), (3, true, .pointer (some ⟨b2, 0, none⟩)), (5, true, I i0)] [Var b2 eConf b 28, Var b1 eConf a 28]
    refine seq (sg (mv rfl (co (fA 1 (.t rfl)) ?_)))
    refine co (Ev.ldx a.routes ty23 (.t rfl) SConf.l_routes) ?_
    refine co (Ev.len Tryz.underlying23 (.t rfl) (fun w I => (ha.keep0 I.keeps).rs)) ?_
    refine co (Ev.lss_i (.t rfl) (.t rfl)) ?_
    refine nP ?_
    first | refine condD rfl (fun h1 => ?_) (fun h1 => ?_) | refine cond rfl (fun h1 => ?_) (fun h1 => ?_)
    · try simp only [Gx.nb] at h1
      refine skip (pN (seq (block (seq (draw' (by kernel_rfl) ?_)))))
      refine tk 0 rfl (fA 1 (.t rfl)) ?_
      refine tk 1 rfl (Ev.ldx a.routes ty23 (.t rfl) SConf.l_routes) ?_
      refine tk 2 rfl (Ev.move (.t rfl)) ?_
      refine tk 3 rfl (Ev.indexAddr Tryz.underlying23 ty102 (.t rfl) (.t rfl) (fun w I => (ha.keep0 I.keeps).rs) (fun _ => by omega)) ?_
      refine tk 4 rfl (Ev.loadS0 ty102 (.t rfl) (fun w I => (ha.keep0 I.keeps).rs) (fun _ => by omega)) ?_
      refine tk 5 rfl (fA 1 (.t rfl)) ?_
      refine tk 6 rfl (Ev.ldx b.routes ty23 (.t rfl) SConf.l_routes) ?_
      refine tk 7 rfl (Ev.move (.t rfl)) ?_
      refine tk 8 rfl (Ev.indexAddr Tryz.underlying23 ty102 (.t rfl) (.t rfl) (fun w I => (hb.keep0 I.keeps).rs) (fun _ => by omega)) ?_
      refine tk 9 rfl (Ev.loadS0 ty102 (.t rfl) (fun w I => (hb.keep0 I.keeps).rs) (fun _ => by omega)) ?_
      refine tk 10 rfl (Ev.neqS rfl eqok102 rfl (by kernel_rfl) (.t rfl) (.t rfl)) ?_
      refine ovr (pN ?_)
      first | refine condD rfl (fun h2 => ?_) (fun h2 => ?_) | refine cond rfl (fun h2 => ?_) (fun h2 => ?_)
      · refine sg (co (Ev.assign (.c (v := .bool false) rfl)) ?_)
        refine nP (ret (bR (pR (pR (bR (pR (done rfl (.tmp rfl .nil) (retE ?_))))))))
        have hh : exactB l k a.default b.default = false := by
          rw [Bool.eq_false_iff]
          intro h
          obtain ⟨e1, e2, e3, e4, e5, e6⟩ := of_decide_eq_true h
          rw [e4] at h2
          simp at h2
        rw [hh]; rfl
      · refine skip (bN (pN (region (mv rfl (co (Ev.add_i (.t rfl) (.c (v := I 1) rfl) (fun _ => by omega)) ?_)))))
        refine asn rfl (nP (nx (X := Int) (i0 + 1) ⟨?_, ?_⟩ ?_))
        · try dsimp only
          omega
        · try dsimp only
          intro j h
          by_cases e : (j : Int) < i0
          · exact hq0 j e
          · obtain rfl : j = i0.toNat := by omega
            simpa using h2
        · try dsimp only
          omega
    · try simp only [Gx.nb] at h1
      refine exit (pX (pX (bX (pN (seq (sg (co (Ev.assign (.c (v := I 0) rfl)) ?_)))))))
      refine nP (block (lp (X := Int) (fun x : Int => (0 ≤ x ∧ x ≤ l.ms.length) ∧ (∀ j : Nat, j < x → l.ms.getD j eMeterConf.zero = k.ms.getD j eMeterConf.zero)) (fun x : Int => [dz, (2, true, .pointer (some ⟨b1, 0, none⟩)), (3, true, .pointer (some ⟨b2, 0, none⟩)), (6, true, I x)]) (fun x : Int => [Var b2 eConf b 28, Var b1 eConf a 28]) (fun x : Int => (l.ms.length - x).toNat) (0) ⟨?_, ?_⟩ (fun x hx => ?_)))
      · omega
      · intro j h; omega
      obtain ⟨i1, rfl⟩ : ∃ y, y = x := ⟨x, rfl⟩
      obtain ⟨hi1, hq1⟩ : (0 ≤ i1 ∧ i1 ≤ l.ms.length) ∧ (∀ j : Nat, j < i1 → l.ms.getD j eMeterConf.zero = k.ms.getD j eMeterConf.zero) := hx
      show Sat _ _ [dz, (2, true, .pointer (some ⟨b1, 0, none⟩)), (3, true, .pointer (some ⟨b2, 0, none⟩)), (6, true, I i1)] [Var b2 eConf b 28, Var b1 eConf a 28]
      refine seq (sg (mv rfl (co (fA 3 (.t rfl)) ?_)))
      refine co (Ev.ldx a.meters ty25 (.t rfl) SConf.l_meters) ?_
      refine co (Ev.len Tryz.underlying25 (.t rfl) (fun w I => (ha.keep0 I.keeps).ms)) ?_
      refine co (Ev.lss_i (.t rfl) (.t rfl)) ?_
      refine nP ?_
      first | refine condD rfl (fun h3 => ?_) (fun h3 => ?_) | refine cond rfl (fun h3 => ?_) (fun h3 => ?_)
      · try simp only [Gx.nb] at h3
        refine skip (pN (seq (block (seq (draw' (by kernel_rfl) ?_)))))
        refine tk 0 rfl (fA 3 (.t rfl)) ?_
        refine tk 1 rfl (Ev.ldx a.meters ty25 (.t rfl) SConf.l_meters) ?_
        refine tk 2 rfl (Ev.move (.t rfl)) ?_
        refine tk 3 rfl (Ev.indexAddr Tryz.underlying25 ty81 (.t rfl) (.t rfl) (fun w I => (ha.keep0 I.keeps).ms) (fun _ => by omega)) ?_
        refine tk 4 rfl (Ev.loadS0 ty81 (.t rfl) (fun w I => (ha.keep0 I.keeps).ms) (fun _ => by omega)) ?_
        refine tk 5 rfl (fA 3 (.t rfl)) ?_
        refine tk 6 rfl (Ev.ldx b.meters ty25 (.t rfl) SConf.l_meters) ?_
        refine tk 7 rfl (Ev.move (.t rfl)) ?_
        refine tk 8 rfl (Ev.indexAddr Tryz.underlying25 ty81 (.t rfl) (.t rfl) (fun w I => (hb.keep0 I.keeps).ms) (fun _ => by omega)) ?_
        refine tk 9 rfl (Ev.loadS0 ty81 (.t rfl) (fun w I => (hb.keep0 I.keeps).ms) (fun _ => by omega)) ?_
        refine tk 10 rfl (Ev.neqS rfl eqok81 rfl (by kernel_rfl) (.t rfl) (.t rfl)) ?_
        refine ovr (pN ?_)
        first | refine condD rfl (fun h4 => ?_) (fun h4 => ?_) | refine cond rfl (fun h4 => ?_) (fun h4 => ?_)
        · refine sg (co (Ev.assign (.c (v := .bool false) rfl)) ?_)
          refine nP (ret (bR (pR (pR (bR (pR (done rfl (.tmp rfl .nil) (retE ?_))))))))
          have hh : exactB l k a.default b.default = false := by
            rw [Bool.eq_false_iff]
            intro h
            obtain ⟨e1, e2, e3, e4, e5, e6⟩ := of_decide_eq_true h
            rw [e5] at h4
            simp at h4
          rw [hh]; rfl
        · refine skip (bN (pN (region (mv rfl (co (Ev.add_i (.t rfl) (.c (v := I 1) rfl) (fun _ => by omega)) ?_)))))
          refine asn rfl (nP (nx (X := Int) (i1 + 1) ⟨?_, ?_⟩ ?_))
          · try dsimp only
            omega
          · try dsimp only
            intro j h
            by_cases e : (j : Int) < i1
            · exact hq1 j e
            · obtain rfl : j = i1.toNat := by omega
              simpa using h4
          · try dsimp only
            omega
      · try simp only [Gx.nb] at h3
        refine exit (pX (pX (bX (pN (seq (sg (co (Ev.assign (.c (v := I 0) rfl)) ?_)))))))
        refine nP (block (lp (X := Int) (fun x : Int => (0 ≤ x ∧ x ≤ l.xs.length) ∧ (∀ j : Nat, j < x → l.xs.getD j eMirrorConf.zero = k.xs.getD j eMirrorConf.zero)) (fun x : Int => [dz, (2, true, .pointer (some ⟨b1, 0, none⟩)), (3, true, .pointer (some ⟨b2, 0, none⟩)), (7, true, I x)]) (fun x : Int => [Var b2 eConf b 28, Var b1 eConf a 28]) (fun x : Int => (l.xs.length - x).toNat) (0) ⟨?_, ?_⟩ (fun x hx => ?_)))
        · omega
        · intro j h; omega
        obtain ⟨i2, rfl⟩ : ∃ y, y = x := ⟨x, rfl⟩
        obtain ⟨hi2, hq2⟩ : (0 ≤ i2 ∧ i2 ≤ l.xs.length) ∧ (∀ j : Nat, j < i2 → l.xs.getD j eMirrorConf.zero = k.xs.getD j eMirrorConf.zero) := hx
        show Sat _ _ [dz, (2, true, .pointer (some ⟨b1, 0, none⟩)), (3, true, .pointer (some ⟨b2, 0, none⟩)), (7, true, I i2)] [Var b2 eConf b 28, Var b1 eConf a 28]
        refine seq (sg (mv rfl (co (fA 4 (.t rfl)) ?_)))
        refine co (Ev.ldx a.mirrors ty26 (.t rfl) SConf.l_mirrors) ?_
        refine co (Ev.len Tryz.underlying26 (.t rfl) (fun w I => (ha.keep0 I.keeps).xs)) ?_
        refine co (Ev.lss_i (.t rfl) (.t rfl)) ?_
        refine nP ?_
        first | refine condD rfl (fun h5 => ?_) (fun h5 => ?_) | refine cond rfl (fun h5 => ?_) (fun h5 => ?_)
        · try simp only [Gx.nb] at h5
          refine skip (pN (seq (block (seq (draw' (by kernel_rfl) ?_)))))
          refine tk 0 rfl (fA 4 (.t rfl)) ?_
          refine tk 1 rfl (Ev.ldx a.mirrors ty26 (.t rfl) SConf.l_mirrors) ?_
          refine tk 2 rfl (Ev.move (.t rfl)) ?_
          refine tk 3 rfl (Ev.indexAddr Tryz.underlying26 ty83 (.t rfl) (.t rfl) (fun w I => (ha.keep0 I.keeps).xs) (fun _ => by omega)) ?_
          refine tk 4 rfl (Ev.loadS0 ty83 (.t rfl) (fun w I => (ha.keep0 I.keeps).xs) (fun _ => by omega)) ?_
          refine tk 5 rfl (fA 4 (.t rfl)) ?_
          refine tk 6 rfl (Ev.ldx b.mirrors ty26 (.t rfl) SConf.l_mirrors) ?_
          refine tk 7 rfl (Ev.move (.t rfl)) ?_
          refine tk 8 rfl (Ev.indexAddr Tryz.underlying26 ty83 (.t rfl) (.t rfl) (fun w I => (hb.keep0 I.keeps).xs) (fun _ => by omega)) ?_
          refine tk 9 rfl (Ev.loadS0 ty83 (.t rfl) (fun w I => (hb.keep0 I.keeps).xs) (fun _ => by omega)) ?_
          refine tk 10 rfl (Ev.neqS rfl eqok83 rfl (by kernel_rfl) (.t rfl) (.t rfl)) ?_
          refine ovr (pN ?_)
          first | refine condD rfl (fun h6 => ?_) (fun h6 => ?_) | refine cond rfl (fun h6 => ?_) (fun h6 => ?_)
          · refine sg (co (Ev.assign (.c (v := .bool false) rfl)) ?_)
            refine nP (ret (bR (pR (pR (bR (pR (done rfl (.tmp rfl .nil) (retE ?_))))))))
            have hh : exactB l k a.default b.default = false := by
              rw [Bool.eq_false_iff]
              intro h
              obtain ⟨e1, e2, e3, e4, e5, e6⟩ := of_decide_eq_true h
              rw [e6] at h6
              simp at h6
            rw [hh]; rfl
          · refine skip (bN (pN (region (mv rfl (co (Ev.add_i (.t rfl) (.c (v := I 1) rfl) (fun _ => by omega)) ?_)))))
            refine asn rfl (nP (nx (X := Int) (i2 + 1) ⟨?_, ?_⟩ ?_))
            · try dsimp only
              omega
            · try dsimp only
              intro j h
              by_cases e : (j : Int) < i2
              · exact hq2 j e
              · obtain rfl : j = i2.toNat := by omega
                simpa using h6
            · try dsimp only
              omega
        · try simp only [Gx.nb] at h5
          refine exit (pX (pX (bX (pN (sg (co (Ev.assign (.c (v := .bool true) rfl)) ?_))))))
          refine nP (ret (done rfl (.tmp rfl .nil) (retE ?_)))
          have hh : exactB l k a.default b.default = true := decide_eq_true ⟨hsm.1, hsm.2.1, hsm.2.2.1, eq_getD eRoute.zero (by omega) (fun j hj => hq0 j (by omega)), eq_getD eMeterConf.zero (by omega) (fun j hj => hq1 j (by omega)), eq_getD eMirrorConf.zero (by omega) (fun j hj => hq2 j (by omega))⟩
          rw [hh]; rfl
theorem CL.Small.n {l : CL} (h : l.Small) : l.n ≤ 4611686018427387904 := by
  obtain ⟨h1, h2, h3, h4, h5⟩ := h
  unfold CL.n
  omega
end Go.Proofs.YtmdkmclgfgaahaaGreat
namespace Go.Proofs.YtmdkmclgfgaahaaGreat
open Go Go.Gx Go.Proofs.YtmdkmclgfgaahaaGreat.Tri
theorem en21 : Gx.Enters Tryz.prog 21 := Gx.Enters.mk' (by kernel_rfl)
theorem rmay_ok (c : SConf) (l : CL) (w : World) (hc : ConfAt w c l) (hn : l.Names) (hz : l.n ≤ 4611686018427387904) : Calls Tryz.prog 6 #[eConf.val c] w (RetV w (.bool (mayB l c.default))) := by
  refine en0 7 Tryz.func6 ?_
  refine sg (cons (box (E := eConf) (.t rfl) (fun b1 => ?_)))
  refine co (Ev.assign (.c (v := .bool false) rfl)) ?_
  refine nP (sg (co (Ev.ldx c ty28 (.t rfl) (Lens.id _)) ?_))
  refine cons (callo en21 (.cons (.t rfl) .nil) (fun w I => rcheck_conf c l w (hc.keep0 I.keeps) hn hz) (fun v2 => ?_))
  refine co (Ev.len Tryz.underlying65 (.t rfl) (by first | exact isSl_own (by repeat first | exact mH | apply mT | apply mA) | exact fun w I => IsSl.keep0 (by assumption) I.keeps)) ?_
  refine co (Ev.eql_i (.t rfl) (.c (v := I 0) rfl)) ?_
  refine asn rfl (nP (ret (done rfl (.tmp rfl .nil) (retE ?_))))
  unfold mayB
  refine congrArg Value.bool ?_
  rw [Bool.eq_iff_iff, decide_eq_true_iff, decide_eq_true_iff, ← List.length_eq_zero_iff]
  omega
end Go.Proofs.YtmdkmclgfgaahaaGreat
namespace Go.Proofs.YtmdkmclgfgaahaaGreat
open Go Go.Gx Go.Proofs.YtmdkmclgfgaahaaGreat.Tri
theorem getD_mem2 {α : Type} (l : List α) (i : Int) (z : α) (h : 0 ≤ i ∧ i < l.length) : l.getD i.toNat z ∈ l := getD_in _ _ _ (by omega)
theorem rhas22 (c : SConf) (l : CL) (n : Int) (w : World) (hc : ConfAt w c l) : Calls Tryz.prog 50 #[eConf.val c, I n] w (RetV w (.bool (l.ps.any (fun x => decide (n = x))))) := by
  have hle := hc.ps.le
  refine en0 20 Tryz.func50 ?_
  refine sg (cons (box (E := eConf) (.t rfl) (fun b1 => ?_)))
  refine co (Ev.assign (.c (v := .bool false) rfl)) ?_
  refine nP (seq (sg (co (Ev.assign (.c (v := I 0) rfl)) ?_)))
  refine nP (block (lp (X := Int) (fun x : Int => (0 ≤ x ∧ x ≤ l.ps.length) ∧ ((l.ps.take x.toNat).any (fun x => decide (n = x)) = false)) (fun x : Int => [dz, (1, true, I n), (2, true, .pointer (some ⟨b1, 0, none⟩)), (5, true, I x)]) (fun x : Int => [Var b1 eConf c 28]) (fun x : Int => ((l.ps.length : Int) - x).toNat) (0) ⟨?_, ?_⟩ (fun x hx => ?_)))
  · omega
  · rfl
  obtain ⟨i, rfl⟩ : ∃ y, y = x := ⟨x, rfl⟩
  obtain ⟨hi, hk⟩ : (0 ≤ i ∧ i ≤ l.ps.length) ∧ ((l.ps.take i.toNat).any (fun x => decide (n = x)) = false) := hx
  show Sat _ _ [dz, (1, true, I n), (2, true, .pointer (some ⟨b1, 0, none⟩)), (5, true, I i)] [Var b1 eConf c 28]
  refine seq (sg (mv rfl (co (fA 0 (.t rfl)) ?_)))
  refine co (Ev.ldx c.ports ty22 (.t rfl) SConf.l_ports) ?_
  refine co (Ev.len Tryz.underlying22 (.t rfl) (fun w I => (hc.keep0 I.keeps).ps)) ?_
  refine co (Ev.lss_i (.t rfl) (.t rfl)) ?_
  refine nP ?_
  first | refine condD rfl (fun h0 => ?_) (fun h0 => ?_) | refine cond rfl (fun h0 => ?_) (fun h0 => ?_)
  · try simp only [Gx.nb] at h0
    refine skip (pN (seq (block (sg (co (fA 0 (.t rfl)) ?_)))))
    refine co (Ev.ldx c.ports ty22 (.t rfl) SConf.l_ports) ?_
    refine mv rfl (co (Ev.indexAddr Tryz.underlying22 ty3 (.t rfl) (.t rfl) (fun w I => (hc.keep0 I.keeps).ps) (fun _ => by omega)) ?_)
    refine co (Ev.loadS0 ty3 (.t rfl) (fun w I => (hc.keep0 I.keeps).ps) (fun _ => by omega)) ?_
    refine mv rfl (co (Ev.eql_i (.t rfl) (.t rfl)) ?_)
    refine nP ?_
    first | refine condD rfl (fun h1 => ?_) (fun h1 => ?_) | refine cond rfl (fun h1 => ?_) (fun h1 => ?_)
    · refine sg (co (Ev.assign (.c (v := .bool true) rfl)) ?_)
      refine nP (ret (bR (pR (pR (bR (pR (done rfl (.tmp rfl .nil) (retE ?_))))))))
      have e : l.ps.any (fun x => decide (n = x)) = true := List.any_eq_true.2 ⟨_, getD_mem2 l.ps i iE.zero (by omega), decide_eq_true (Eq.symm (by simpa using h1))⟩
      rw [e]; rfl
    · refine skip (bN (pN (region (mv rfl (co (Ev.add_i (.t rfl) (.c (v := I 1) rfl) (fun _ => by omega)) ?_)))))
      refine asn rfl (nP (nx (X := Int) (i + 1) ⟨?_, ?_⟩ ?_))
      · try dsimp only
        omega
      · try dsimp only
        rw [take_snoc l.ps i hi.1 (by omega) iE.zero, List.any_append, hk]
        have h9 : ¬ l.ps.getD i.toNat iE.zero = n := by simpa using h1
        simpa [eq_comm] using h9
      · try dsimp only
        omega
  · try simp only [Gx.nb] at h0
    refine exit (pX (pX (bX (pN (sg (co (Ev.assign (.c (v := .bool false) rfl)) ?_))))))
    refine nP (ret (done rfl (.tmp rfl .nil) (retE ?_)))
    have e : i.toNat = l.ps.length := by omega
    rw [e, List.take_length] at hk
    rw [hk]; rfl
theorem rnone22 (w : World) : Calls Tryz.prog 49 #[] w (RetV w (eVerdict.val dropV)) := by
  refine en0 2 Tryz.func49 ?_
  refine sg (cons (alloc z60 (fun b1 => ?_)))
  refine nP (sg (co (Ev.buildS (fs := _) (places := [(0, 1), (1, 1), (2, 1), (3, 1), (4, 1)]) z60 rfl Tryz.underlying60 (by kernel_rfl) (.cons (.c (v := I 2) rfl) (.cons (.c (v := I (-1)) rfl) (.cons (.c (v := I (-1)) rfl) (.cons (.c (v := I (-1)) rfl) (.cons (.c (v := I (-1)) rfl) .nil))))) (Fills.cons SVerdict.l_action rfl (Fills.cons SVerdict.l_out rfl (Fills.cons SVerdict.l_rule rfl (Fills.cons SVerdict.l_meter rfl (Fills.cons SVerdict.l_mirror rfl Fills.nil)))))) ?_))
  refine cons (stv ty60 (Lens.id _) (.t rfl) (.t rfl) ?_)
  refine nP (ret (done rfl (.cell rfl (fun w I => run_loadVar_pts ty60 (ptsVar (by repeat first | exact mH | apply mT | apply mA) (Lens.id _) w I)) .nil) (retE ?_)))
  rfl
theorem rmeter22 (c : SConf) (l : CL) (s : ByteArray) (w : World) (hc : ConfAt w c l) (hn : ∀ x ∈ l.ms, nameB x.name = true) : Calls Tryz.prog 52 #[eConf.val c, .string s] w (RetV w (I (nameI (·.name) l.ms s))) := by
  have hle := hc.ms.le
  refine en0 26 Tryz.func52 ?_
  refine sg (cons (box (E := eConf) (.t rfl) (fun b1 => ?_)))
  refine co (Ev.assign (.c (v := I 0) rfl)) ?_
  refine nP (seq (sg (co (Ev.assign (.c (v := I 0) rfl)) ?_)))
  refine nP (block (lp (X := Int) (fun x : Int => (0 ≤ x ∧ x ≤ l.ms.length) ∧ (∀ k : Nat, (k : Int) < x → decide ((l.ms.getD k eMeterConf.zero).name = s) = false)) (fun x : Int => [dz, (1, true, .string s), (2, true, .pointer (some ⟨b1, 0, none⟩)), (5, true, I x)]) (fun x : Int => [Var b1 eConf c 28]) (fun x : Int => ((l.ms.length : Int) - x).toNat) (0) ⟨?_, ?_⟩ (fun x hx => ?_)))
  · omega
  · intro k hk; omega
  obtain ⟨i, rfl⟩ : ∃ y, y = x := ⟨x, rfl⟩
  obtain ⟨hi, hk⟩ : (0 ≤ i ∧ i ≤ l.ms.length) ∧ (∀ k : Nat, (k : Int) < i → decide ((l.ms.getD k eMeterConf.zero).name = s) = false) := hx
  show Sat _ _ [dz, (1, true, .string s), (2, true, .pointer (some ⟨b1, 0, none⟩)), (5, true, I i)] [Var b1 eConf c 28]
  refine seq (sg (mv rfl (co (fA 3 (.t rfl)) ?_)))
  refine co (Ev.ldx c.meters ty25 (.t rfl) SConf.l_meters) ?_
  refine co (Ev.len Tryz.underlying25 (.t rfl) (fun w I => (hc.keep0 I.keeps).ms)) ?_
  refine co (Ev.lss_i (.t rfl) (.t rfl)) ?_
  refine nP ?_
  first | refine condD rfl (fun h0 => ?_) (fun h0 => ?_) | refine cond rfl (fun h0 => ?_) (fun h0 => ?_)
  · try simp only [Gx.nb] at h0
    refine skip (pN (seq (block (sg (co (fA 3 (.t rfl)) ?_)))))
    refine co (Ev.ldx c.meters ty25 (.t rfl) SConf.l_meters) ?_
    refine mv rfl (co (Ev.indexAddr Tryz.underlying25 ty81 (.t rfl) (.t rfl) (fun w I => (hc.keep0 I.keeps).ms) (fun _ => by omega)) ?_)
    refine co (Ev.fieldAddrS (o := 0) (i := i) (.t rfl) (fun w I => (hc.keep0 I.keeps).ms) (fun _ => by omega) (by kernel_rfl)) ?_
    refine co (Ev.loadS ty9 SMeterConf.l_name rfl (.t rfl) (fun w I => (hc.keep0 I.keeps).ms) (fun _ => by omega)) ?_
    refine mv rfl (co (Ev.eql_s (.t rfl) (.t rfl)) ?_)
    refine mv rfl (cg rfl rfl (Ev.move (.t rfl)) ?_)
    refine cg rfl rfl (Ev.neq_s (.g rfl id) (.c (v := (Go.Value.string (ByteArray.mk #[]))) rfl)) ?_
    refine co (Ev.pkA (.t rfl) rfl) ?_
    refine nP ?_
    first | refine condD rfl (fun h1 => ?_) (fun h1 => ?_) | refine cond rfl (fun h1 => ?_) (fun h1 => ?_)
    · have hq : decide ((l.ms.getD i.toNat eMeterConf.zero).name = s) = true := by
        have h9 : (decide ((l.ms.getD i.toNat eMeterConf.zero).name = s) && decide (¬ s = ⟨#[]⟩)) = true := h1
        exact (Bool.and_eq_true_iff.1 h9).1
      refine sg (mv rfl (asn rfl (nP (ret (bR (pR (pR (bR (pR (done rfl (.tmp rfl .nil) (retE ?_)))))))))))
      have e : nameI (fun x => x.name) l.ms s = i := idx_at eMeterConf.zero ⟨hi.1, by omega⟩ (fun k hk9 => hk k hk9) hq
      rw [e]; rfl
    · have hq : decide ((l.ms.getD i.toNat eMeterConf.zero).name = s) = false := by
        have hb := nameB_ne (hn _ (getD_mem2 l.ms i eMeterConf.zero (by omega)))
        have h9 : (decide ((l.ms.getD i.toNat eMeterConf.zero).name = s) && decide (¬ s = ⟨#[]⟩)) = false := h1
        by_cases e : (l.ms.getD i.toNat eMeterConf.zero).name = s
        · rw [e] at hb
          rw [decide_eq_true e, decide_eq_true hb] at h9
          cases h9
        · exact decide_eq_false e
      refine skip (bN (pN (region (mv rfl (co (Ev.add_i (.t rfl) (.c (v := I 1) rfl) (fun _ => by omega)) ?_)))))
      refine asn rfl (nP (nx (X := Int) (i + 1) ⟨?_, ?_⟩ ?_))
      · try dsimp only
        omega
      · try dsimp only
        intro k hk9
        by_cases e : (k : Int) = i
        · have e2 : k = i.toNat := by omega
          rw [e2]; exact hq
        · exact hk k (by omega)
      · try dsimp only
        omega
  · try simp only [Gx.nb] at h0
    refine exit (pX (pX (bX (pN (sg (co (Ev.assign (.c (v := I (-1)) rfl)) ?_))))))
    refine nP (ret (done rfl (.tmp rfl .nil) (retE ?_)))
    have e : nameI (fun x => x.name) l.ms s = -1 := idx_none eMeterConf.zero (fun k hk9 => hk k (by omega))
    rw [e]; rfl
theorem rmirror22 (c : SConf) (l : CL) (s : ByteArray) (w : World) (hc : ConfAt w c l) (hn : ∀ x ∈ l.xs, nameB x.name = true) : Calls Tryz.prog 53 #[eConf.val c, .string s] w (RetV w (I (nameI (·.name) l.xs s))) := by
  have hle := hc.xs.le
  refine en0 26 Tryz.func53 ?_
  refine sg (cons (box (E := eConf) (.t rfl) (fun b1 => ?_)))
  refine co (Ev.assign (.c (v := I 0) rfl)) ?_
  refine nP (seq (sg (co (Ev.assign (.c (v := I 0) rfl)) ?_)))
  refine nP (block (lp (X := Int) (fun x : Int => (0 ≤ x ∧ x ≤ l.xs.length) ∧ (∀ k : Nat, (k : Int) < x → decide ((l.xs.getD k eMirrorConf.zero).name = s) = false)) (fun x : Int => [dz, (1, true, .string s), (2, true, .pointer (some ⟨b1, 0, none⟩)), (5, true, I x)]) (fun x : Int => [Var b1 eConf c 28]) (fun x : Int => ((l.xs.length : Int) - x).toNat) (0) ⟨?_, ?_⟩ (fun x hx => ?_)))
  · omega
  · intro k hk; omega
  obtain ⟨i, rfl⟩ : ∃ y, y = x := ⟨x, rfl⟩
  obtain ⟨hi, hk⟩ : (0 ≤ i ∧ i ≤ l.xs.length) ∧ (∀ k : Nat, (k : Int) < i → decide ((l.xs.getD k eMirrorConf.zero).name = s) = false) := hx
  show Sat _ _ [dz, (1, true, .string s), (2, true, .pointer (some ⟨b1, 0, none⟩)), (5, true, I i)] [Var b1 eConf c 28]
  refine seq (sg (mv rfl (co (fA 4 (.t rfl)) ?_)))
  refine co (Ev.ldx c.mirrors ty26 (.t rfl) SConf.l_mirrors) ?_
  refine co (Ev.len Tryz.underlying26 (.t rfl) (fun w I => (hc.keep0 I.keeps).xs)) ?_
  refine co (Ev.lss_i (.t rfl) (.t rfl)) ?_
  refine nP ?_
  first | refine condD rfl (fun h0 => ?_) (fun h0 => ?_) | refine cond rfl (fun h0 => ?_) (fun h0 => ?_)
  · try simp only [Gx.nb] at h0
    refine skip (pN (seq (block (sg (co (fA 4 (.t rfl)) ?_)))))
    refine co (Ev.ldx c.mirrors ty26 (.t rfl) SConf.l_mirrors) ?_
    refine mv rfl (co (Ev.indexAddr Tryz.underlying26 ty83 (.t rfl) (.t rfl) (fun w I => (hc.keep0 I.keeps).xs) (fun _ => by omega)) ?_)
    refine co (Ev.fieldAddrS (o := 0) (i := i) (.t rfl) (fun w I => (hc.keep0 I.keeps).xs) (fun _ => by omega) (by kernel_rfl)) ?_
    refine co (Ev.loadS ty9 SMirrorConf.l_name rfl (.t rfl) (fun w I => (hc.keep0 I.keeps).xs) (fun _ => by omega)) ?_
    refine mv rfl (co (Ev.eql_s (.t rfl) (.t rfl)) ?_)
    refine mv rfl (cg rfl rfl (Ev.move (.t rfl)) ?_)
    refine cg rfl rfl (Ev.neq_s (.g rfl id) (.c (v := (Go.Value.string (ByteArray.mk #[]))) rfl)) ?_
    refine co (Ev.pkA (.t rfl) rfl) ?_
    refine nP ?_
    first | refine condD rfl (fun h1 => ?_) (fun h1 => ?_) | refine cond rfl (fun h1 => ?_) (fun h1 => ?_)
    · have hq : decide ((l.xs.getD i.toNat eMirrorConf.zero).name = s) = true := by
        have h9 : (decide ((l.xs.getD i.toNat eMirrorConf.zero).name = s) && decide (¬ s = ⟨#[]⟩)) = true := h1
        exact (Bool.and_eq_true_iff.1 h9).1
      refine sg (mv rfl (asn rfl (nP (ret (bR (pR (pR (bR (pR (done rfl (.tmp rfl .nil) (retE ?_)))))))))))
      have e : nameI (fun x => x.name) l.xs s = i := idx_at eMirrorConf.zero ⟨hi.1, by omega⟩ (fun k hk9 => hk k hk9) hq
      rw [e]; rfl
    · have hq : decide ((l.xs.getD i.toNat eMirrorConf.zero).name = s) = false := by
        have hb := nameB_ne (hn _ (getD_mem2 l.xs i eMirrorConf.zero (by omega)))
        have h9 : (decide ((l.xs.getD i.toNat eMirrorConf.zero).name = s) && decide (¬ s = ⟨#[]⟩)) = false := h1
        by_cases e : (l.xs.getD i.toNat eMirrorConf.zero).name = s
        · rw [e] at hb
          rw [decide_eq_true e, decide_eq_true hb] at h9
          cases h9
        · exact decide_eq_false e
      refine skip (bN (pN (region (mv rfl (co (Ev.add_i (.t rfl) (.c (v := I 1) rfl) (fun _ => by omega)) ?_)))))
      refine asn rfl (nP (nx (X := Int) (i + 1) ⟨?_, ?_⟩ ?_))
      · try dsimp only
        omega
      · try dsimp only
        intro k hk9
        by_cases e : (k : Int) = i
        · have e2 : k = i.toNat := by omega
          rw [e2]; exact hq
        · exact hk k (by omega)
      · try dsimp only
        omega
  · try simp only [Gx.nb] at h0
    refine exit (pX (pX (bX (pN (sg (co (Ev.assign (.c (v := I (-1)) rfl)) ?_))))))
    refine nP (ret (done rfl (.tmp rfl .nil) (retE ?_)))
    have e : nameI (fun x => x.name) l.xs s = -1 := idx_none eMirrorConf.zero (fun k hk9 => hk k (by omega))
    rw [e]; rfl
theorem has_zero (a : SAddr) : hasP ⟨⟨a.v6, eAddr.zero.b⟩, 0⟩ a = decide (checkA a = 0) := by
  have hz : checkP ⟨⟨a.v6, eAddr.zero.b⟩, 0⟩ = 0 := by
    cases a.v6 <;> decide +kernel
  rw [Bool.eq_iff_iff, decide_eq_true_iff, hasP_iff]
  exact ⟨fun h => h.2.1, fun h => ⟨hz, h, rfl, fun i h1 h2 => by have : i < 0 := h2; omega⟩⟩
theorem raddr22 (a : SAddr) (w : World) : Calls Tryz.prog 28 #[eAddr.val a] w (RetV w (.bool (decide (checkA a = 0)))) := by
  refine en0 9 Tryz.func28 ?_
  refine sg (cons (box (E := eAddr) (.t rfl) (fun b1 => ?_)))
  refine co (Ev.assign (.c (v := .bool false) rfl)) ?_
  refine nP (sg (co (fA 0 (.t rfl)) ?_))
  refine co (Ev.ldx a.v6 ty4 (.t rfl) SAddr.l_v6) ?_
  refine co (Ev.buildS (fs := _) (places := [(0, 1), (1, 16)]) z38 rfl Tryz.underlying38 (by kernel_rfl) (.cons (.t rfl) .nil) (Fills.cons SAddr.l_v6 rfl Fills.nil)) ?_
  refine co (Ev.buildS (fs := _) (places := [(0, 17), (17, 1)]) z89 rfl Tryz.underlying89 (by kernel_rfl) (.cons (.t rfl) .nil) (Fills.cons SPrefix.l_addr rfl Fills.nil)) ?_
  refine co (Ev.ldx a ty38 (.t rfl) (Lens.id _)) ?_
  refine cons (callv en33 (.cons (.t rfl) (.cons (.t rfl) .nil)) (fun w I => rhas_ok _ _ w) ?_)
  refine asn rfl (nP (ret (done rfl (.tmp rfl .nil) (retE ?_))))
  rw [← has_zero]; rfl
theorem check2 (h : SHeader) (n : Int) : decide (¬ checkH h n = 2) = (((((decide (checkA h.src = 0) && decide (checkA h.dst = 0)) && decide (h.src.v6 = h.dst.v6)) && decide (h.id ≤ (bif h.src.v6 then 1048575 else 65535))) && ((decide (h.proto = 6) || decide (h.proto = 17)) || (decide (h.srcPort = 0) && decide (h.dstPort = 0)))) && (decide (h.proto = 6) || (decide (h.flags = 0) && decide (h.seq = 0)))) := by
  have hm : midN h.proto = 0 ↔ ¬ h.proto = 6 ∧ ¬ h.proto = 17 := by
    unfold midN
    by_cases a : h.proto = 6
    · simp [a]
    · by_cases b : h.proto = 17 <;> simp [a, b]
  have hid : (bif h.src.v6 then (1048575 : UInt32) else 65535) < h.id ↔ ¬ h.id ≤ (bif h.src.v6 then 1048575 else 65535) := by
    rw [UInt32.not_le]
  unfold checkH
  simp only [hm, hid]
  by_cases a1 : checkA h.src = 0
  · by_cases a2 : checkA h.dst = 0
    · by_cases a3 : h.src.v6 = h.dst.v6
      · by_cases a4 : h.id ≤ (bif h.src.v6 then 1048575 else 65535)
        · rw [if_neg (fun hh => by rcases hh with g | g | g | g; exact g a1; exact g a2; exact g a3; exact g a4)]
          by_cases a5 : h.proto = 6
          · rw [if_neg (by simp [a5])]
            rw [decide_eq_true a1, decide_eq_true a2, decide_eq_true a3, decide_eq_true a4, decide_eq_true a5, decide_eq_true]
            · rfl
            · split <;> decide
          · by_cases a7 : h.flags = 0 ∧ h.seq = 0
            · by_cases a6 : h.proto = 17
              · rw [if_neg (by simp [a6, a7.1, a7.2])]
                rw [decide_eq_true a1, decide_eq_true a2, decide_eq_true a3, decide_eq_true a4, decide_eq_true a6, decide_eq_true a7.1, decide_eq_true a7.2, decide_eq_true]
                · simp
                · split <;> decide
              · by_cases a8 : h.srcPort = 0 ∧ h.dstPort = 0
                · rw [if_neg (by simp [a7.1, a7.2, a8.1, a8.2])]
                  rw [decide_eq_true a1, decide_eq_true a2, decide_eq_true a3, decide_eq_true a4, decide_eq_true a7.1, decide_eq_true a7.2, decide_eq_true a8.1, decide_eq_true a8.2, decide_eq_true]
                  · simp
                  · split <;> decide
                · rw [if_pos (.inl ⟨⟨a5, a6⟩, by by_cases b : h.srcPort = 0 <;> simp_all⟩)]
                  by_cases b : h.srcPort = 0 <;> simp_all
            · rw [if_pos (.inr ⟨a5, by by_cases b : h.flags = 0 <;> simp_all⟩)]
              by_cases b : h.flags = 0 <;> simp_all
        · rw [if_pos (.inr (.inr (.inr a4)))]
          simp only [decide_eq_false a4, Bool.and_false, Bool.false_and]
          rfl
      · rw [if_pos (.inr (.inr (.inl a3)))]
        simp only [decide_eq_false a3, Bool.and_false, Bool.false_and]
        rfl
    · rw [if_pos (.inr (.inl a2))]
      simp only [decide_eq_false a2, Bool.and_false, Bool.false_and]
      rfl
  · rw [if_pos (.inl a1)]
    simp only [decide_eq_false a1, Bool.and_false, Bool.false_and]
    rfl
theorem en28 : Gx.Enters Tryz.prog 28 := Gx.Enters.mk' (by kernel_rfl)
set_option maxRecDepth 8000 in
theorem rmay22 (h : SHeader) (n : Int) (w : World) : Calls Tryz.prog 8 #[eHeader.val h] w (RetV w (.bool (decide (¬ checkH h n = 2)))) := by
  refine en0 67 Tryz.func8 ?_
  refine sg (cons (box (E := eHeader) (.t rfl) (fun b1 => ?_)))
  refine co (Ev.assign (.c (v := .bool false) rfl)) ?_
  refine nP (sg (co (Ev.assign (.c (v := U32 65535) rfl)) ?_))
  refine nP (cut (X := UInt32) (fun x : UInt32 => (x = (bif h.src.v6 then 1048575 else 65535))) (fun x : UInt32 => [dz, (1, true, .pointer (some ⟨b1, 0, none⟩)), (3, true, U32 x)]) (fun x : UInt32 => [Var b1 eHeader h 43]) ?_ (fun x hx => ?_))
  · refine sg (co (fA 0 (.t rfl)) ?_)
    refine co (fA 0 (.t rfl)) ?_
    refine co (Ev.ldx h.src.v6 ty4 (.t rfl) (Lens.comp SHeader.l_src SAddr.l_v6)) ?_
    refine nP ?_
    first | refine condD rfl (fun h0 => ?_) (fun h0 => ?_) | refine cond rfl (fun h0 => ?_) (fun h0 => ?_)
    · try simp only [Gx.nb] at h0
      refine region (co (Ev.assign (.c (v := U32 1048575) rfl)) ?_)
      refine nP (mt (X := UInt32) (_) ?_)
      · try dsimp only
        simp [h0]
    · try simp only [Gx.nb] at h0
      refine skip (pN (mt (X := UInt32) (_) ?_))
      · try dsimp only
        simp [h0]
  obtain ⟨lim, rfl⟩ : ∃ y, y = x := ⟨x, rfl⟩
  have hlim : lim = (bif h.src.v6 then 1048575 else 65535) := hx
  clear hx
  show Sat _ _ [dz, (1, true, .pointer (some ⟨b1, 0, none⟩)), (3, true, U32 lim)] [Var b1 eHeader h 43]
  refine sg (co (fA 34 (.t rfl)) ?_)
  refine co (Ev.ldx h.proto ty5 (.t rfl) SHeader.l_proto) ?_
  refine co (Ev.eql_u8 (.t rfl) (.c (v := U8 6) rfl)) ?_
  refine mv rfl (cg rfl rfl (fA 34 (.t rfl)) ?_)
  refine cg rfl rfl (Ev.ldx h.proto ty5 (.g rfl id) SHeader.l_proto) ?_
  refine cg rfl rfl (Ev.eql_u8 (.g rfl id) (.c (v := U8 17) rfl)) ?_
  refine co (Ev.pkO (.t rfl) rfl) ?_
  refine asn rfl (nP (sg (co (fA 0 (.t rfl)) ?_)))
  refine co (Ev.ldx h.src ty38 (.t rfl) SHeader.l_src) ?_
  refine cons (callv en28 (.cons (.t rfl) .nil) (fun w I => raddr22 _ w) ?_)
  refine mv rfl (cg rfl rfl (fA 17 (.t rfl)) ?_)
  refine cg rfl rfl (Ev.ldx h.dst ty38 (.g rfl id) SHeader.l_dst) ?_
  refine cons (callg rfl rfl en28 (.cons (.g rfl id) .nil) (fun hg w I => raddr22 _ w) ?_)
  refine co (Ev.pkA (.t rfl) rfl) ?_
  refine mv rfl (cg rfl rfl (fA 0 (.t rfl)) ?_)
  refine cg rfl rfl (fA 0 (.g rfl id)) ?_
  refine cg rfl rfl (Ev.ldx h.src.v6 ty4 (.g rfl id) (Lens.comp SHeader.l_src SAddr.l_v6)) ?_
  refine cg rfl rfl (fA 17 (.t rfl)) ?_
  refine cg rfl rfl (fA 0 (.g rfl id)) ?_
  refine cg rfl rfl (Ev.ldx h.dst.v6 ty4 (.g rfl id) (Lens.comp SHeader.l_dst SAddr.l_v6)) ?_
  refine cg rfl rfl (Ev.eql_b Tryz.underlying4 (.g rfl id) (.g rfl id)) ?_
  refine co (Ev.pkA (.t rfl) rfl) ?_
  refine mv rfl (cg rfl rfl (fA 39 (.t rfl)) ?_)
  refine cg rfl rfl (Ev.ldx h.id ty40 (.g rfl id) SHeader.l_id) ?_
  refine cg rfl rfl (Ev.move (.t rfl)) ?_
  refine cg rfl rfl (Ev.leq_u32 (.g rfl id) (.g rfl id)) ?_
  refine co (Ev.pkA (.t rfl) rfl) ?_
  refine mv rfl (cg rfl rfl (Ev.move (.t rfl)) ?_)
  refine cg rfl rfl (Ev.move (.g rfl id)) ?_
  refine cg rfl rfl (fA 35 (.t rfl)) ?_
  refine cg rfl rfl (Ev.ldx h.srcPort ty39 (.g rfl id) SHeader.l_srcPort) ?_
  refine cg rfl rfl (Ev.eql_u16 (.g rfl id) (.c (v := U16 0) rfl)) ?_
  refine cg rfl rfl (Ev.move (.g rfl id)) ?_
  refine cg rfl rfl (fA 36 (.t rfl)) ?_
  refine cg rfl rfl (Ev.ldx h.dstPort ty39 (.g rfl id) SHeader.l_dstPort) ?_
  refine cg rfl rfl (Ev.eql_u16 (.g rfl id) (.c (v := U16 0) rfl)) ?_
  refine cg rfl rfl (Ev.pkA (.g rfl id) rfl) ?_
  refine cg rfl rfl (Ev.pkO (.g rfl id) rfl) ?_
  refine co (Ev.pkA (.t rfl) rfl) ?_
  refine mv rfl (cg rfl rfl (fA 34 (.t rfl)) ?_)
  refine cg rfl rfl (Ev.ldx h.proto ty5 (.g rfl id) SHeader.l_proto) ?_
  refine cg rfl rfl (Ev.eql_u8 (.g rfl id) (.c (v := U8 6) rfl)) ?_
  refine cg rfl rfl (Ev.move (.g rfl id)) ?_
  refine cg rfl rfl (fA 40 (.t rfl)) ?_
  refine cg rfl rfl (Ev.ldx h.flags ty5 (.g rfl id) SHeader.l_flags) ?_
  refine cg rfl rfl (Ev.eql_u8 (.g rfl id) (.c (v := U8 0) rfl)) ?_
  refine cg rfl rfl (Ev.move (.g rfl id)) ?_
  refine cg rfl rfl (fA 41 (.t rfl)) ?_
  refine cg rfl rfl (Ev.ldx h.seq ty40 (.g rfl id) SHeader.l_seq) ?_
  refine cg rfl rfl (Ev.eql_u32 (.g rfl id) (.c (v := U32 0) rfl)) ?_
  refine cg rfl rfl (Ev.pkA (.g rfl id) rfl) ?_
  refine cg rfl rfl (Ev.pickO (.g rfl id) (.c (v := .bool true) rfl) (fun {_} h => by cases h; rfl) ⟨_, rfl⟩ (by intro h1 h; exact Bool.and_eq_true_iff.2 ⟨h1, by rw [h]; rfl⟩)) ?_
  refine co (Ev.pkA (.t rfl) rfl) ?_
  refine asn rfl (nP (ret (done rfl (.tmp rfl .nil) (retE ?_))))
  rw [check2, ← hlim]; rfl
theorem rroute22 (c : SConf) (l : CL) (a : SAddr) (w : World) (hc : ConfAt w c l) : Calls Tryz.prog 16 #[eConf.val c, eAddr.val a] w (RetV w (.tuple #[I (routeV l.rs a).1, .bool (routeV l.rs a).2])) := by
  have hle := hc.rs.le
  refine en0 53 Tryz.func16 ?_
  refine sg (cons (box (E := eConf) (.t rfl) (fun b1 => ?_)))
  refine cons (box (E := eAddr) (.t rfl) (fun b2 => ?_))
  refine co (Ev.assign (.c (v := I 0) rfl)) ?_
  refine co (Ev.assign (.c (v := .bool false) rfl)) ?_
  refine nP (sg (co (Ev.assign (.c (v := I (-1)) rfl)) ?_))
  refine nP (seq (sg (co (Ev.assign (.c (v := I 0) rfl)) ?_)))
  refine nP (block (lp (X := Int × Int) (fun x : Int × Int => (0 ≤ x.1 ∧ x.1 ≤ l.rs.length) ∧ (x.2 = longN l.rs a x.1.toNat)) (fun x : Int × Int => [dz, (2, true, .pointer (some ⟨b1, 0, none⟩)), (3, true, .pointer (some ⟨b2, 0, none⟩)), (6, true, I x.2), (7, true, I x.1)]) (fun x : Int × Int => [Var b2 eAddr a 38, Var b1 eConf c 28]) (fun x : Int × Int => ((l.rs.length : Int) - x.1).toNat) (0, -1) ⟨?_, ?_⟩ (fun x hx => ?_)))
  · omega
  · rfl
  obtain ⟨i, lo⟩ := x
  obtain ⟨hi, hlo⟩ : (0 ≤ i ∧ i ≤ l.rs.length) ∧ (lo = longN l.rs a i.toNat) := hx
  show Sat _ _ [dz, (2, true, .pointer (some ⟨b1, 0, none⟩)), (3, true, .pointer (some ⟨b2, 0, none⟩)), (6, true, I lo), (7, true, I i)] [Var b2 eAddr a 38, Var b1 eConf c 28]
  have hlr := longN_rng l.rs a i.toNat
  rw [← hlo] at hlr
  refine seq (sg (mv rfl (co (fA 1 (.t rfl)) ?_)))
  refine co (Ev.ldx c.routes ty23 (.t rfl) SConf.l_routes) ?_
  refine co (Ev.len Tryz.underlying23 (.t rfl) (fun w I => (hc.keep0 I.keeps).rs)) ?_
  refine co (Ev.lss_i (.t rfl) (.t rfl)) ?_
  refine nP ?_
  first | refine condD rfl (fun h0 => ?_) (fun h0 => ?_) | refine cond rfl (fun h0 => ?_) (fun h0 => ?_)
  · try simp only [Gx.nb] at h0
    refine skip (pN (seq (block (seq (draw' (by kernel_rfl) ?_)))))
    refine tk 0 rfl (fA 1 (.t rfl)) ?_
    refine tk 1 rfl (Ev.ldx c.routes ty23 (.t rfl) SConf.l_routes) ?_
    refine tk 2 rfl (Ev.move (.t rfl)) ?_
    refine tk 3 rfl (Ev.indexAddr Tryz.underlying23 ty102 (.t rfl) (.t rfl) (fun w I => (hc.keep0 I.keeps).rs) (fun _ => by omega)) ?_
    refine tk 4 rfl (Ev.fieldAddrS (o := 0) (i := i) (.t rfl) (fun w I => (hc.keep0 I.keeps).rs) (fun _ => by omega) (by kernel_rfl)) ?_
    refine tk 5 rfl (Ev.loadS ty89 SRoute.l_to_ rfl (.t rfl) (fun w I => (hc.keep0 I.keeps).rs) (fun _ => by omega)) ?_
    refine tk 6 rfl (Ev.ldx a ty38 (.t rfl) (Lens.id _)) ?_
    refine al1 7 rfl ((callv en33 (.cons (.t rfl) (.cons (.t rfl) .nil)) (fun w I => rhas_ok _ _ w) ?_))
    refine hdn (tk 8 rfl (Ev.move (.t rfl)) ?_)
    refine tkg 9 rfl rfl rfl (Ev.move (.t rfl)) ?_
    refine tkg 10 rfl rfl rfl (Ev.lss_i (.g rfl id) (.c (v := I 0) rfl)) ?_
    refine tkg 11 rfl rfl rfl (Ev.move (.g rfl id)) ?_
    refine tkg 12 rfl rfl rfl (fA 1 (.t rfl)) ?_
    refine tkg 13 rfl rfl rfl (Ev.ldx c.routes ty23 (.g rfl id) SConf.l_routes) ?_
    refine tkg 14 rfl rfl rfl (Ev.move (.t rfl)) ?_
    refine tkg 15 rfl rfl rfl (Ev.indexAddr Tryz.underlying23 ty102 (.g rfl id) (.g rfl id) (fun w I => (hc.keep0 I.keeps).rs) (fun _ => by first | omega | (rename_i hg; simp at hg; omega))) ?_
    refine tkg 16 rfl rfl rfl (Ev.fieldAddrS (o := 0) (i := i) (.g rfl id) (fun w I => (hc.keep0 I.keeps).rs) (fun _ => by first | omega | (rename_i hg; simp at hg; omega)) (by kernel_rfl)) ?_
    refine tkg 17 rfl rfl rfl (Ev.fieldAddrS (o := 17) (i := i) (.g rfl id) (fun w I => (hc.keep0 I.keeps).rs) (fun _ => by first | omega | (rename_i hg; simp at hg; omega)) (by kernel_rfl)) ?_
    refine tkg 18 rfl rfl rfl (Ev.loadS ty3 (Lens.comp SRoute.l_to_ SPrefix.l_bits) rfl (.g rfl id) (fun w I => (hc.keep0 I.keeps).rs) (fun _ => by first | omega | (rename_i hg; simp at hg; omega))) ?_
    refine tkg 19 rfl rfl rfl (fA 1 (.t rfl)) ?_
    refine tkg 20 rfl rfl rfl (Ev.ldx c.routes ty23 (.g rfl id) SConf.l_routes) ?_
    refine tkg 21 rfl rfl rfl (Ev.move (.t rfl)) ?_
    refine tkg 22 rfl rfl rfl (Ev.indexAddr Tryz.underlying23 ty102 (.g rfl id) (.g rfl id) (fun w I => (hc.keep0 I.keeps).rs) (fun _ => by first | omega | (rename_i hg; simp at hg; omega))) ?_
    refine tkg 23 rfl rfl rfl (Ev.fieldAddrS (o := 0) (i := lo) (.g rfl id) (fun w I => (hc.keep0 I.keeps).rs) (fun _ => by first | omega | (rename_i hg; simp at hg; omega)) (by kernel_rfl)) ?_
    refine tkg 24 rfl rfl rfl (Ev.fieldAddrS (o := 17) (i := lo) (.g rfl id) (fun w I => (hc.keep0 I.keeps).rs) (fun _ => by first | omega | (rename_i hg; simp at hg; omega)) (by kernel_rfl)) ?_
    refine tkg 25 rfl rfl rfl (Ev.loadS ty3 (Lens.comp SRoute.l_to_ SPrefix.l_bits) rfl (.g rfl id) (fun w I => (hc.keep0 I.keeps).rs) (fun _ => by first | omega | (rename_i hg; simp at hg; omega))) ?_
    refine tkg 26 rfl rfl rfl (Ev.gtr_i (.g rfl id) (.g rfl id)) ?_
    refine tkg 27 rfl rfl rfl (Ev.pkO (.g rfl id) rfl) ?_
    refine tk 28 rfl (Ev.pkA (.t rfl) rfl) ?_
    refine ovr (pN ?_)
    first | refine condD rfl (fun h1 => ?_) (fun h1 => ?_) | refine cond rfl (fun h1 => ?_) (fun h1 => ?_)
    · have hst : (hasP (l.rs.getD i.toNat eRoute.zero).to_ a && (decide (lo < 0) || decide ((l.rs.getD lo.toNat eRoute.zero).to_.bits < (l.rs.getD i.toNat eRoute.zero).to_.bits))) = true := h1
      refine region (mv rfl (asn rfl (nil (bN (pN (region (mv rfl (co (Ev.add_i (.t rfl) (.c (v := I 1) rfl) (fun _ => by omega)) ?_))))))))
      refine asn rfl (nP (nx (X := Int × Int) (i + 1, _) ⟨?_, ?_⟩ ?_))
      · try dsimp only
        omega
      · try dsimp only
        rw [longN_stepI _ _ hi.1, ← hlo]
        first | rw [if_pos hst] | rw [if_neg hst]
      · try dsimp only
        omega
    · have hst : ¬ (hasP (l.rs.getD i.toNat eRoute.zero).to_ a && (decide (lo < 0) || decide ((l.rs.getD lo.toNat eRoute.zero).to_.bits < (l.rs.getD i.toNat eRoute.zero).to_.bits))) = true := fun e9 => by
        have h9 : (hasP (l.rs.getD i.toNat eRoute.zero).to_ a && (decide (lo < 0) || decide ((l.rs.getD lo.toNat eRoute.zero).to_.bits < (l.rs.getD i.toNat eRoute.zero).to_.bits))) = false := h1
        rw [h9] at e9
        cases e9
      refine skip (bN (pN (region (mv rfl (co (Ev.add_i (.t rfl) (.c (v := I 1) rfl) (fun _ => by omega)) ?_)))))
      refine asn rfl (nP (nx (X := Int × Int) (i + 1, _) ⟨?_, ?_⟩ ?_))
      · try dsimp only
        omega
      · try dsimp only
        rw [longN_stepI _ _ hi.1, ← hlo]
        first | rw [if_pos hst] | rw [if_neg hst]
      · try dsimp only
        omega
  · try simp only [Gx.nb] at h0
    refine exit (pX (pX (bX (pN (seq (seq ?_))))))
    have hlk : longK l.rs a = lo := by
      have e9 : i.toNat = l.rs.length := by omega
      rw [e9] at hlo
      exact hlo.symm
    refine region (mv rfl (co (Ev.lss_i (.t rfl) (.c (v := I 0) rfl)) ?_))
    refine nP ?_
    first | refine condD rfl (fun h2 => ?_) (fun h2 => ?_) | refine cond rfl (fun h2 => ?_) (fun h2 => ?_)
    · try simp only [Gx.nb] at h2
      refine sg (co (Ev.assign (.c (v := I 0) rfl)) ?_)
      refine co (Ev.assign (.c (v := .bool false) rfl)) ?_
      refine nP (ret (pR (done rfl (.tmp rfl (.tmp rfl .nil)) (retE ?_))))
      unfold routeV
      rw [hlk, if_pos h2]; rfl
    · try simp only [Gx.nb] at h2
      refine skip (pN (sg (co (fA 1 (.t rfl)) ?_)))
      refine co (Ev.ldx c.routes ty23 (.t rfl) SConf.l_routes) ?_
      refine mv rfl (co (Ev.indexAddr Tryz.underlying23 ty102 (.t rfl) (.t rfl) (fun w I => (hc.keep0 I.keeps).rs) (fun _ => by omega)) ?_)
      refine co (Ev.fieldAddrS (o := 18) (i := lo) (.t rfl) (fun w I => (hc.keep0 I.keeps).rs) (fun _ => by omega) (by kernel_rfl)) ?_
      refine co (Ev.loadS ty3 SRoute.l_out rfl (.t rfl) (fun w I => (hc.keep0 I.keeps).rs) (fun _ => by omega)) ?_
      refine asn rfl (co (Ev.assign (.c (v := .bool true) rfl)) ?_)
      refine nP (ret (done rfl (.tmp rfl (.tmp rfl .nil)) (retE ?_)))
      unfold routeV
      rw [hlk, if_neg (by omega)]; rfl
end Go.Proofs.YtmdkmclgfgaahaaGreat
namespace Go.Proofs.YtmdkmclgfgaahaaGreat
open Go Go.Gx Go.Proofs.YtmdkmclgfgaahaaGreat.Tri
def refV (l : CL) (f : Int) : SVerdict := ⟨2, -1, f, if 0 ≤ f then nameI (·.name) l.ms (l.us.getD f.toNat eRule.zero).meter else -1, if 0 ≤ f then nameI (·.name) l.xs (l.us.getD f.toNat eRule.zero).mirror else -1⟩
def act22 (rs : List SRoute) (a o : Int) (x : SAddr) : Int × Int := if a = 3 then (3, o) else if a = 4 then (4, -1) else if a = 1 then (if (routeV rs x).2 = true then (3, (routeV rs x).1) else (4, -1)) else (2, -1)
theorem act_22 {rs : List SRoute} {a o o2 : Int} {x : SAddr} (ha : 1 ≤ a ∧ a ≤ 4) (ho : a = 3 → o2 = o) : act22 rs a o2 x = actO rs a o x := by
  unfold act22 actO
  by_cases h3 : a = 3
  · rw [if_pos h3, if_pos h3, ho h3]
  · rw [if_neg h3, if_neg h3]
    by_cases h4 : a = 4
    · rw [if_pos h4, if_neg (by omega), h4]
    · rw [if_neg h4]
      by_cases h1 : a = 1
      · rw [if_pos h1, if_pos h1]
      · rw [if_neg h1, if_neg h1, show a = 2 by omega]
structure Act22 (l : CL) (d f ac ou : Int) : Prop where
  yes : 0 ≤ f → ac = (l.us.getD f.toNat eRule.zero).action ∧ ou = (l.us.getD f.toNat eRule.zero).out
  no : f < 0 → ac = d ∧ ou = -1
theorem dec22 {l : CL} {d n : Int} {h : SHeader} {ac ou : Int} (hm : mayB l d = true) (hp : l.ps.any (fun x => decide (n = x)) = true) (ha : Act22 l d (metI l n h) ac ou) : decV l d n h = { refV l (metI l n h) with action := (act22 l.rs ac ou h.dst).1, out := (act22 l.rs ac ou h.dst).2 } := by
  obtain ⟨h1, h2, h3⟩ := decV_parts (d := d) (h := h) hp
  have hd := (may_good hm).d
  unfold defBad at hd
  simp only [Bool.not_eq_false', Bool.or_eq_true, decide_eq_true_iff] at hd
  have e : act22 l.rs ac ou h.dst = actO l.rs (actI l d (ruleI l n h)).1 (actI l d (ruleI l n h)).2 h.dst := by
    have hr := metI_rng l n h
    unfold actI
    by_cases hf : metI l n h < 0
    · rw [ruleI_lt hf, if_neg (by omega)]
      obtain ⟨a1, a2⟩ := ha.no hf
      rw [a1, a2]
      exact act_22 (by omega) (fun e3 => absurd e3 (by omega))
    · have e9 := ruleI_ge hf
      have e8 : ruleI l n h = (metI l n h).toNat := by omega
      obtain ⟨a1, a2⟩ := ha.yes (by omega)
      have hrg := (fold_range hm (getD_mem2 l.us (metI l n h) eRule.zero (by omega))).2.2.1
      rw [e8, if_pos (by omega), ← a1, ← a2]
      rw [← a1] at hrg
      exact act_22 (by omega) (fun _ => rfl)
  rw [e, ← h3]
  obtain ⟨_, h4, h5⟩ := h1
  show decV l d n h = ⟨(decV l d n h).action, (decV l d n h).out, metI l n h, if 0 ≤ metI l n h then nameI (·.name) l.ms (l.us.getD (metI l n h).toNat eRule.zero).meter else -1, if 0 ≤ metI l n h then nameI (·.name) l.xs (l.us.getD (metI l n h).toNat eRule.zero).mirror else -1⟩
  rw [← h2] at h4 h5 ⊢
  rw [← h4, ← h5]
theorem en49 : Gx.Enters Tryz.prog 49 := Gx.Enters.mk' (by kernel_rfl)
theorem en50 : Gx.Enters Tryz.prog 50 := Gx.Enters.mk' (by kernel_rfl)
theorem en51 : Gx.Enters Tryz.prog 51 := Gx.Enters.mk' (by kernel_rfl)
theorem en52 : Gx.Enters Tryz.prog 52 := Gx.Enters.mk' (by kernel_rfl)
theorem en53 : Gx.Enters Tryz.prog 53 := Gx.Enters.mk' (by kernel_rfl)
theorem en16 : Gx.Enters Tryz.prog 16 := Gx.Enters.mk' (by kernel_rfl)
set_option maxRecDepth 8000 in
theorem rdec22 (c : SConf) (l : CL) (n : Int) (h : SHeader) (w : World) (hc : ConfAt w c l) (hm : mayB l c.default = true) : Calls Tryz.prog 29 #[eConf.val c, I n, eHeader.val h] w (RetV w (eVerdict.val (decV l c.default n h))) := by
  have hle := hc.us.le
  refine en0 79 Tryz.func29 ?_
  refine sg (cons (box (E := eConf) (.t rfl) (fun b1 => ?_)))
  refine cons (box (E := eHeader) (.t rfl) (fun b2 => ?_))
  refine cons (alloc z60 (fun b3 => ?_))
  refine nP (sg (cons (callv en49 .nil (fun w I => rnone22 w) ?_)))
  refine cons (alloc z60 (fun b4 => ?_))
  refine cons (stv ty60 (Lens.id _) (.t rfl) (.t rfl) ?_)
  refine nP (seq (sg (co (Ev.ldx c ty28 (.t rfl) (Lens.id _)) ?_)))
  refine mv rfl (cons (callv en50 (.cons (.t rfl) (.cons (.t rfl) .nil)) (fun w I => rhas22 _ l _ w (hc.keep0 I.keeps)) ?_))
  refine co (Ev.not (.t rfl)) ?_
  refine nP ?_
  first | refine condD rfl (fun h0 => ?_) (fun h0 => ?_) | refine cond rfl (fun h0 => ?_) (fun h0 => ?_)
  · have hps : l.ps.any (fun x => decide (n = x)) = false := by simpa using h0
    refine sg (co (Ev.ldv ty60 (.t rfl) (Lens.id _)) ?_)
    refine cons (stv ty60 (Lens.id _) (.t rfl) (.t rfl) ?_)
    refine nP (ret (pR (done rfl (.cell rfl (fun w I => run_loadVar_pts ty60 (ptsVar (by repeat first | exact mH | apply mT | apply mA) (Lens.id _) w I)) .nil) (retE ?_))))
    rw [decV_no hps]; rfl
  · have hps : l.ps.any (fun x => decide (n = x)) = true := by simpa using h0
    refine skip (pN (sg (co (fA 5 (.t rfl)) ?_)))
    refine co (Ev.ldx c.default ty3 (.t rfl) SConf.l_default) ?_
    refine asn rfl (nP (sg (co (Ev.assign (.c (v := I (-1)) rfl)) ?_)))
    refine nP (cut (X := SVerdict × Int × Int) (fun x : SVerdict × Int × Int => (x.1 = refV l (metI l n h)) ∧ (Act22 l c.default (metI l n h) x.2.1 x.2.2)) (fun x : SVerdict × Int × Int => [dz, (1, true, I n), (3, true, .pointer (some ⟨b1, 0, none⟩)), (5, true, .pointer (some ⟨b2, 0, none⟩)), (6, true, .pointer (some ⟨b3, 0, none⟩)), (7, true, .pointer (some ⟨b4, 0, none⟩)), (8, true, I x.2.1), (9, true, I x.2.2)]) (fun x : SVerdict × Int × Int => [Var b4 eVerdict x.1 60, Var b3 eVerdict eVerdict.zero 60, Var b2 eHeader h 43, Var b1 eConf c 28]) ?_ (fun x hx => ?_))
    · refine sg (co (Ev.assign (.c (v := I 0) rfl)) ?_)
      refine nP (block (lp (X := Int) (fun x : Int => (0 ≤ x ∧ x ≤ l.us.length) ∧ (metI l n h = firstF (metQ n h) ((mtL l).drop x.toNat) x)) (fun x : Int => [dz, (1, true, I n), (3, true, .pointer (some ⟨b1, 0, none⟩)), (5, true, .pointer (some ⟨b2, 0, none⟩)), (6, true, .pointer (some ⟨b3, 0, none⟩)), (7, true, .pointer (some ⟨b4, 0, none⟩)), (8, true, I c.default), (9, true, I (-1)), (10, true, I x)]) (fun x : Int => [Var b4 eVerdict dropV 60, Var b3 eVerdict eVerdict.zero 60, Var b2 eHeader h 43, Var b1 eConf c 28]) (fun x : Int => ((l.us.length : Int) - x).toNat) (0) ⟨?_, ?_⟩ (fun x hx => ?_)))
      · omega
      · rfl
      obtain ⟨i, rfl⟩ : ∃ y, y = x := ⟨x, rfl⟩
      obtain ⟨hi, hk⟩ : (0 ≤ i ∧ i ≤ l.us.length) ∧ (metI l n h = firstF (metQ n h) ((mtL l).drop i.toNat) i) := hx
      show Sat _ _ [dz, (1, true, I n), (3, true, .pointer (some ⟨b1, 0, none⟩)), (5, true, .pointer (some ⟨b2, 0, none⟩)), (6, true, .pointer (some ⟨b3, 0, none⟩)), (7, true, .pointer (some ⟨b4, 0, none⟩)), (8, true, I c.default), (9, true, I (-1)), (10, true, I i)] [Var b4 eVerdict dropV 60, Var b3 eVerdict eVerdict.zero 60, Var b2 eHeader h 43, Var b1 eConf c 28]
      refine seq (sg (mv rfl (co (fA 2 (.t rfl)) ?_)))
      refine co (Ev.ldx c.rules ty24 (.t rfl) SConf.l_rules) ?_
      refine co (Ev.len Tryz.underlying24 (.t rfl) (fun w I => (hc.keep0 I.keeps).us)) ?_
      refine co (Ev.lss_i (.t rfl) (.t rfl)) ?_
      refine nP ?_
      first | refine condD rfl (fun h1 => ?_) (fun h1 => ?_) | refine cond rfl (fun h1 => ?_) (fun h1 => ?_)
      · try simp only [Gx.nb] at h1
        refine skip (pN (seq (block (sg (co (fA 2 (.t rfl)) ?_)))))
        refine co (Ev.ldx c.rules ty24 (.t rfl) SConf.l_rules) ?_
        refine mv rfl (co (Ev.indexAddr Tryz.underlying24 ty93 (.t rfl) (.t rfl) (fun w I => (hc.keep0 I.keeps).us) (fun _ => by omega)) ?_)
        refine co (Ev.loadS0 ty93 (.t rfl) (fun w I => (hc.keep0 I.keeps).us) (fun _ => by omega)) ?_
        refine cons (alloc z93 (fun b5 => ?_))
        refine cons (stv ty93 (Lens.id _) (.t rfl) (.t rfl) ?_)
        refine nP (sg (co (fA 1 (.t rfl)) ?_))
        refine co (Ev.ldv ty91 (.t rfl) SRule.l_match_) ?_
        refine mv rfl (co (Ev.ldx h ty43 (.t rfl) (Lens.id _)) ?_)
        refine cons (callv en51 (.cons (.t rfl) (.cons (.t rfl) (.cons (.t rfl) .nil))) (fun w I => rmeets_ok _ _ _ w) ?_)
        refine nP ?_
        first | refine condD rfl (fun h2 => ?_) (fun h2 => ?_) | refine cond rfl (fun h2 => ?_) (fun h2 => ?_)
        · have hmq : metB (l.us.getD i.toNat eRule.zero).match_ n h = true := by
            have h9 : (okM (l.us.getD i.toNat eRule.zero).match_ && metB (l.us.getD i.toNat eRule.zero).match_ n h) = true := h2
            rw [may_okM hm (by omega)] at h9
            simpa using h9
          refine sg (mv rfl (co (fA 2 (.t rfl)) ?_))
          refine cons (stv ty3 SVerdict.l_rule (.t rfl) (.t rfl) ?_)
          refine nP (sg (co (Ev.ldx c ty28 (.t rfl) (Lens.id _)) ?_))
          refine co (fA 47 (.t rfl)) ?_
          refine co (Ev.ldv ty9 (.t rfl) SRule.l_meter) ?_
          refine cons (callv en52 (.cons (.t rfl) (.cons (.t rfl) .nil)) (fun w I => rmeter22 c l _ w (hc.keep0 I.keeps) (may_ms hm)) ?_)
          refine co (fA 3 (.t rfl)) ?_
          refine cons (stv ty3 SVerdict.l_meter (.t rfl) (.t rfl) ?_)
          refine nP (sg (co (Ev.ldx c ty28 (.t rfl) (Lens.id _)) ?_))
          refine co (fA 48 (.t rfl)) ?_
          refine co (Ev.ldv ty9 (.t rfl) SRule.l_mirror) ?_
          refine cons (callv en53 (.cons (.t rfl) (.cons (.t rfl) .nil)) (fun w I => rmirror22 c l _ w (hc.keep0 I.keeps) (may_xs hm)) ?_)
          refine co (fA 4 (.t rfl)) ?_
          refine cons (stv ty3 SVerdict.l_mirror (.t rfl) (.t rfl) ?_)
          refine nP (sg (co (fA 45 (.t rfl)) ?_))
          refine co (Ev.ldv ty3 (.t rfl) SRule.l_action) ?_
          refine asn rfl (nP (sg (co (fA 46 (.t rfl)) ?_)))
          refine co (Ev.ldv ty3 (.t rfl) SRule.l_out) ?_
          refine asn rfl (nP (exit (bO rfl (pX (pX (bX (pN (mt (X := SVerdict × Int × Int) (_, _, _) ⟨?_, ?_⟩))))))))
          · try dsimp only
            first
              | (have e9 : metI l n h = i := by rw [hk, down_step l n h (by omega), if_pos hmq]
                 rw [e9]; unfold refV; rw [if_pos hi.1, if_pos hi.1]; rfl)
              | (have e9 : metI l n h = -1 := by rw [hk, List.drop_eq_nil_of_le (by rw [mtL_len]; omega)]; rfl
                 rw [e9]; rfl)
          · try dsimp only
            first
              | (have e9 : metI l n h = i := by rw [hk, down_step l n h (by omega), if_pos hmq]
                 rw [e9]; exact ⟨fun _ => ⟨rfl, rfl⟩, fun g => absurd g (by omega)⟩)
              | (have e9 : metI l n h = -1 := by rw [hk, List.drop_eq_nil_of_le (by rw [mtL_len]; omega)]; rfl
                 rw [e9]; exact ⟨fun g => absurd g (by omega), fun _ => ⟨rfl, rfl⟩⟩)
        · have hmq : ¬ metB (l.us.getD i.toNat eRule.zero).match_ n h = true := by
            have h9 : (okM (l.us.getD i.toNat eRule.zero).match_ && metB (l.us.getD i.toNat eRule.zero).match_ n h) = false := h2
            rw [may_okM hm (by omega)] at h9
            simpa using h9
          refine skip (bN (pN (region (mv rfl (co (Ev.add_i (.t rfl) (.c (v := I 1) rfl) (fun _ => by omega)) ?_)))))
          refine asn rfl (nP (nx (X := Int) (i + 1) ⟨?_, ?_⟩ ?_))
          · try dsimp only
            omega
          · try dsimp only
            rw [hk, down_step l n h (by omega), if_neg hmq]
          · try dsimp only
            omega
      · try simp only [Gx.nb] at h1
        refine exit (pX (pX (bX (pN (mt (X := SVerdict × Int × Int) (_, _, _) ⟨?_, ?_⟩)))))
        · try dsimp only
          first
            | (have e9 : metI l n h = i := by rw [hk, down_step l n h (by omega), if_pos hmq]
               rw [e9]; unfold refV; rw [if_pos hi.1, if_pos hi.1]; rfl)
            | (have e9 : metI l n h = -1 := by rw [hk, List.drop_eq_nil_of_le (by rw [mtL_len]; omega)]; rfl
               rw [e9]; rfl)
        · try dsimp only
          first
            | (have e9 : metI l n h = i := by rw [hk, down_step l n h (by omega), if_pos hmq]
               rw [e9]; exact ⟨fun _ => ⟨rfl, rfl⟩, fun g => absurd g (by omega)⟩)
            | (have e9 : metI l n h = -1 := by rw [hk, List.drop_eq_nil_of_le (by rw [mtL_len]; omega)]; rfl
               rw [e9]; exact ⟨fun g => absurd g (by omega), fun _ => ⟨rfl, rfl⟩⟩)
    obtain ⟨V0, ac, ou⟩ := x
    obtain ⟨hv0, hact⟩ : (V0 = refV l (metI l n h)) ∧ (Act22 l c.default (metI l n h) ac ou) := hx
    show Sat _ _ [dz, (1, true, I n), (3, true, .pointer (some ⟨b1, 0, none⟩)), (5, true, .pointer (some ⟨b2, 0, none⟩)), (6, true, .pointer (some ⟨b3, 0, none⟩)), (7, true, .pointer (some ⟨b4, 0, none⟩)), (8, true, I ac), (9, true, I ou)] [Var b4 eVerdict V0 60, Var b3 eVerdict eVerdict.zero 60, Var b2 eHeader h 43, Var b1 eConf c 28]
    refine seq (sg (mv rfl (nP (block (sg (co (Ev.eql_i (.t rfl) (.c (v := I 3) rfl)) ?_))))))
    refine asn rfl (nP ?_)
    first | refine condD rfl (fun h3 => ?_) (fun h3 => ?_) | refine cond rfl (fun h3 => ?_) (fun h3 => ?_)
    · try simp only [Gx.nb] at h3
      refine sg (co (fA 0 (.t rfl)) ?_)
      refine cons (stv ty3 SVerdict.l_action (.t rfl) (.c (v := I 3) rfl) ?_)
      refine nP (region (mv rfl (co (fA 1 (.t rfl)) ?_)))
      refine cons (stv ty3 SVerdict.l_out (.t rfl) (.t rfl) ?_)
      refine nil (bN (pN (sg (co (Ev.ldv ty60 (.t rfl) (Lens.id _)) ?_))))
      refine cons (stv ty60 (Lens.id _) (.t rfl) (.t rfl) ?_)
      refine nP (ret (done rfl (.cell rfl (fun w I => run_loadVar_pts ty60 (ptsVar (by repeat first | exact mH | apply mT | apply mA) (Lens.id _) w I)) .nil) (retE ?_)))
      rw [dec22 hm hps hact]
      subst hv0
      unfold act22
      first | (rw [if_pos h3]; rfl) | (rw [if_neg h3, if_pos h4]; rfl) | (rw [if_neg h3, if_neg h4, if_pos h5, if_pos h6]; rfl) | (rw [if_neg h3, if_neg h4, if_pos h5, if_neg (by rw [h6]; exact Bool.false_ne_true)]; rfl) | (rw [if_neg h3, if_neg h4, if_neg h5]; rfl)
    · try simp only [Gx.nb] at h3
      refine sg (co (Ev.eql_i (.t rfl) (.c (v := I 4) rfl)) ?_)
      refine asn rfl (nP ?_)
      first | refine condD rfl (fun h4 => ?_) (fun h4 => ?_) | refine cond rfl (fun h4 => ?_) (fun h4 => ?_)
      · try simp only [Gx.nb] at h4
        refine region (co (fA 0 (.t rfl)) ?_)
        refine cons (stv ty3 SVerdict.l_action (.t rfl) (.c (v := I 4) rfl) ?_)
        refine nil (bN (pN (sg (co (Ev.ldv ty60 (.t rfl) (Lens.id _)) ?_))))
        refine cons (stv ty60 (Lens.id _) (.t rfl) (.t rfl) ?_)
        refine nP (ret (done rfl (.cell rfl (fun w I => run_loadVar_pts ty60 (ptsVar (by repeat first | exact mH | apply mT | apply mA) (Lens.id _) w I)) .nil) (retE ?_)))
        rw [dec22 hm hps hact]
        subst hv0
        unfold act22
        first | (rw [if_pos h3]; rfl) | (rw [if_neg h3, if_pos h4]; rfl) | (rw [if_neg h3, if_neg h4, if_pos h5, if_pos h6]; rfl) | (rw [if_neg h3, if_neg h4, if_pos h5, if_neg (by rw [h6]; exact Bool.false_ne_true)]; rfl) | (rw [if_neg h3, if_neg h4, if_neg h5]; rfl)
      · try simp only [Gx.nb] at h4
        refine sg (co (Ev.eql_i (.t rfl) (.c (v := I 1) rfl)) ?_)
        refine asn rfl (nP ?_)
        first | refine condD rfl (fun h5 => ?_) (fun h5 => ?_) | refine cond rfl (fun h5 => ?_) (fun h5 => ?_)
        · try simp only [Gx.nb] at h5
          refine sg (co (fA 0 (.t rfl)) ?_)
          refine cons (stv ty3 SVerdict.l_action (.t rfl) (.c (v := I 4) rfl) ?_)
          refine nP (sg (co (Ev.ldx c ty28 (.t rfl) (Lens.id _)) ?_))
          refine co (fA 17 (.t rfl)) ?_
          refine co (Ev.ldx h.dst ty38 (.t rfl) SHeader.l_dst) ?_
          refine cons (callv en16 (.cons (.t rfl) (.cons (.t rfl) .nil)) (fun w I => rroute22 c l h.dst w (hc.keep0 I.keeps)) ?_)
          refine mv rfl (co (Ev.extract (.t rfl) rfl) (co (Ev.extract (.t rfl) rfl) (asn rfl (asn rfl (nP (sg (mv rfl (nP ?_))))))))
          first | refine condD rfl (fun h6 => ?_) (fun h6 => ?_) | refine cond rfl (fun h6 => ?_) (fun h6 => ?_)
          · refine sg (co (fA 0 (.t rfl)) ?_)
            refine cons (stv ty3 SVerdict.l_action (.t rfl) (.c (v := I 3) rfl) ?_)
            refine nP (region (mv rfl (co (fA 1 (.t rfl)) ?_)))
            refine cons (stv ty3 SVerdict.l_out (.t rfl) (.t rfl) ?_)
            refine nil (bN (pN (sg (co (Ev.ldv ty60 (.t rfl) (Lens.id _)) ?_))))
            refine cons (stv ty60 (Lens.id _) (.t rfl) (.t rfl) ?_)
            refine nP (ret (done rfl (.cell rfl (fun w I => run_loadVar_pts ty60 (ptsVar (by repeat first | exact mH | apply mT | apply mA) (Lens.id _) w I)) .nil) (retE ?_)))
            rw [dec22 hm hps hact]
            subst hv0
            unfold act22
            first | (rw [if_pos h3]; rfl) | (rw [if_neg h3, if_pos h4]; rfl) | (rw [if_neg h3, if_neg h4, if_pos h5, if_pos h6]; rfl) | (rw [if_neg h3, if_neg h4, if_pos h5, if_neg (by rw [h6]; exact Bool.false_ne_true)]; rfl) | (rw [if_neg h3, if_neg h4, if_neg h5]; rfl)
          · refine skip (bN (pN (sg (co (Ev.ldv ty60 (.t rfl) (Lens.id _)) ?_))))
            refine cons (stv ty60 (Lens.id _) (.t rfl) (.t rfl) ?_)
            refine nP (ret (done rfl (.cell rfl (fun w I => run_loadVar_pts ty60 (ptsVar (by repeat first | exact mH | apply mT | apply mA) (Lens.id _) w I)) .nil) (retE ?_)))
            rw [dec22 hm hps hact]
            subst hv0
            unfold act22
            first | (rw [if_pos h3]; rfl) | (rw [if_neg h3, if_pos h4]; rfl) | (rw [if_neg h3, if_neg h4, if_pos h5, if_pos h6]; rfl) | (rw [if_neg h3, if_neg h4, if_pos h5, if_neg (by rw [h6]; exact Bool.false_ne_true)]; rfl) | (rw [if_neg h3, if_neg h4, if_neg h5]; rfl)
        · try simp only [Gx.nb] at h5
          refine skip (bN (pN (sg (co (Ev.ldv ty60 (.t rfl) (Lens.id _)) ?_))))
          refine cons (stv ty60 (Lens.id _) (.t rfl) (.t rfl) ?_)
          refine nP (ret (done rfl (.cell rfl (fun w I => run_loadVar_pts ty60 (ptsVar (by repeat first | exact mH | apply mT | apply mA) (Lens.id _) w I)) .nil) (retE ?_)))
          rw [dec22 hm hps hact]
          subst hv0
          unfold act22
          first | (rw [if_pos h3]; rfl) | (rw [if_neg h3, if_pos h4]; rfl) | (rw [if_neg h3, if_neg h4, if_pos h5, if_pos h6]; rfl) | (rw [if_neg h3, if_neg h4, if_pos h5, if_neg (by rw [h6]; exact Bool.false_ne_true)]; rfl) | (rw [if_neg h3, if_neg h4, if_neg h5]; rfl)
theorem rdec_to (c : SConf) (l : CL) (n : Int) (h : SHeader) (V : SVerdict) (w : World) (hc : ConfAt w c l) (hm : mayB l c.default = true) (hv : decV l c.default n h = V) : Calls Tryz.prog 29 #[eConf.val c, I n, eHeader.val h] w (RetV w (eVerdict.val V)) := by
  subst hv
  exact rdec22 c l n h w hc hm
end Go.Proofs.YtmdkmclgfgaahaaGreat
namespace Go.Proofs.YtmdkmclgfgaahaaGreat
open Go Go.Gx Go.Proofs.YtmdkmclgfgaahaaGreat.Tri
theorem en29 : Gx.Enters Tryz.prog 29 := Gx.Enters.mk' (by kernel_rfl)
end Go.Proofs.YtmdkmclgfgaahaaGreat
namespace Go.Proofs.YtmdkmclgfgaahaaGreat
open Go Go.Gx Go.Proofs.YtmdkmclgfgaahaaGreat.Tri
theorem en8 : Gx.Enters Tryz.prog 8 := Gx.Enters.mk' (by kernel_rfl)
theorem decided_ok (p : Pl) (c : SConf) (l : CL) (x : SLaw22Came) (dt : List UInt8) (w : World) (hp : PlanAt w p l c.default) (ho : PlanOK p l c.default) (hc : ConfAt w c l) (hd : IsSl u8E w x.h.data.v dt) (hl : dt.length ≤ 1152921504606846975) : Calls Tryz.prog 17 #[.pointer (some ⟨p.b, 0, none⟩), eConf.val c, eLaw22Came.val x] w (RetV w (.bool true)) := by
  obtain ⟨V, hV⟩ : ∃ z, dvV l c.default x.in_ x.h dt.length = z := ⟨_, rfl⟩
  obtain ⟨E0, hE⟩ : ∃ z, deE x.h dt.length = z := ⟨_, rfl⟩
  refine en0 41 Tryz.func17 ?_
  refine sg (cons (box (E := eConf) (.t rfl) (fun b1 => ?_)))
  refine cons (box (E := eLaw22Came) (.t rfl) (fun b2 => ?_))
  refine co (Ev.assign (.c (v := .bool false) rfl)) ?_
  refine nP (sg (mv rfl (co (fA 0 (.t rfl)) ?_)))
  refine co (Ev.ldx x.in_ ty3 (.t rfl) SLaw22Came.l_in_) ?_
  refine co (fA 1 (.t rfl)) ?_
  refine co (Ev.ldx x.h ty43 (.t rfl) SLaw22Came.l_h) ?_
  refine cons (callv en19 (.cons (.t rfl) (.cons (.t rfl) (.cons (.t rfl) .nil))) (fun w I => decide_to p l c.default _ _ dt V E0 w (hp.keep I.keeps) ho (hd.keep0 I.keeps) hl hV hE) ?_)
  refine mv rfl (co (Ev.extract (.t rfl) rfl) (co (Ev.extract (.t rfl) rfl) (cons (alloc z60 (fun b3 => ?_)))))
  refine cons (stv ty60 (Lens.id _) (.t rfl) (.t rfl) ?_)
  refine asn rfl (nP (seq (sg (co (fA 1 (.t rfl)) ?_))))
  refine co (Ev.ldx x.h ty43 (.t rfl) SLaw22Came.l_h) ?_
  refine cons (callv en8 (.cons (.t rfl) .nil) (fun w I => rmay22 _ (dt.length : Int) w) ?_)
  refine co (Ev.not (.t rfl)) ?_
  refine nP ?_
  first | refine condD rfl (fun h0 => ?_) (fun h0 => ?_) | refine cond rfl (fun h0 => ?_) (fun h0 => ?_)
  · have hck : checkH x.h dt.length = 2 := by simpa using h0
    have hE2 : E0 = 2 := by rw [← hE]; unfold deE; rw [if_pos hck]
    have hV2 : V = eVerdict.zero := by rw [← hV]; unfold dvV; rw [if_pos hck]
    refine sg (mv rfl (co (Ev.to (v' := .bool true) (Ev.eql_i (.t rfl) (.c (v := I 2) rfl)) (congrArg Value.bool (decide_eq_true hE2))) ?_))
    refine mv rfl (cg rfl rfl (Ev.ldv ty60 (.t rfl) (Lens.id _)) ?_)
    refine cg rfl rfl (Ev.buildS (fs := _) (places := [(0, 1), (1, 1), (2, 1), (3, 1), (4, 1)]) z60 rfl Tryz.underlying60 (by kernel_rfl) .nil Fills.nil) ?_
    refine cg rfl rfl (Ev.to (v' := .bool true) (Ev.eqlS rfl eqok60 rfl (by kernel_rfl) (.g rfl id) (.g rfl id)) (congrArg Value.bool ((SVerdict.eqb_iff _ _).2 (hV2)))) ?_
    refine co (Ev.to (v' := .bool true) (Ev.pkA (.t rfl) rfl) (rfl)) ?_
    refine asn rfl (nP (ret (pR (done rfl (.tmp rfl .nil) (retE ?_)))))
    rfl
  · have hck : ¬ checkH x.h dt.length = 2 := by simpa using h0
    have hE2 : E0 = 0 := by rw [← hE]; unfold deE; rw [if_neg hck]
    have hdv : decV l c.default x.in_ x.h = V := by rw [← hV]; unfold dvV; rw [if_neg hck]
    refine skip (pN (seq (draw' (by kernel_rfl) ?_)))
    refine tk 0 rfl (Ev.move (.t rfl)) ?_
    refine tk 1 rfl (Ev.to (v' := .bool true) (Ev.eql_i (.t rfl) (.c (v := I 0) rfl)) (congrArg Value.bool (decide_eq_true hE2))) ?_
    refine tk 2 rfl (Ev.move (.t rfl)) ?_
    refine tkg 3 rfl rfl rfl (Ev.ldv ty60 (.t rfl) (Lens.id _)) ?_
    refine tkg 4 rfl rfl rfl (Ev.ldx c ty28 (.t rfl) (Lens.id _)) ?_
    refine tkg 5 rfl rfl rfl (fA 0 (.t rfl)) ?_
    refine tkg 6 rfl rfl rfl (Ev.ldx x.in_ ty3 (.g rfl id) SLaw22Came.l_in_) ?_
    refine tkg 7 rfl rfl rfl (fA 1 (.t rfl)) ?_
    refine tkg 8 rfl rfl rfl (Ev.ldx x.h ty43 (.g rfl id) SLaw22Came.l_h) ?_
    refine al1 9 rfl ((callg rfl rfl en29 (.cons (.g rfl id) (.cons (.g rfl id) (.cons (.g rfl id) .nil))) (fun hg w I => rdec_to c l _ _ V w (hc.keep0 I.keeps) ho.may hdv) ?_))
    refine hdn (tkg 10 rfl rfl rfl (Ev.to (v' := .bool true) (Ev.eqlS rfl eqok60 rfl (by kernel_rfl) (.g rfl id) (.g rfl id)) (congrArg Value.bool ((SVerdict.eqb_iff _ _).2 (rfl)))) ?_)
    refine tk 11 rfl (Ev.to (v' := .bool true) (Ev.pkA (.t rfl) rfl) (rfl)) ?_
    refine tk 12 rfl (Ev.assign (.t rfl)) ?_
    refine ovr (pN (ret (done rfl (.tmp rfl .nil) (retE ?_))))
    rfl
structure CL.Fits (l : CL) : Prop where
  ps : l.ps.length * 8 ≤ 140737488351232
  rs : l.rs.length * 40 ≤ 140737488351232
  us : l.us.length * 152 ≤ 140737488351232
  ms : l.ms.length * 40 ≤ 140737488351232
  xs : l.xs.length * 32 ≤ 140737488351232
theorem rcopy_big (c : SConf) (l : CL) (w : World) (hc : ConfAt w c l) (hs : l.Fits) : Calls Tryz.prog 11 #[eConf.val c] w (RetN w (fun _ : CB => True) (fun x => eConf.val (x.c c.default)) (fun x => x.R l)) := by
  obtain ⟨hl0, hl1, hl2, hl3, hl4⟩ := hs
  refine en0 38 Tryz.func11 ?_
  refine sg (cons (box (E := eConf) (.t rfl) (fun b1 => ?_)))
  refine cons (alloc z28 (fun b2 => ?_))
  refine nP (sg (co (fA 5 (.t rfl)) ?_))
  refine co (Ev.ldx c.default ty3 (.t rfl) SConf.l_default) ?_
  refine co (Ev.buildS (fs := _) (places := [(0, 1), (1, 1), (2, 1), (3, 1), (4, 1), (5, 1)]) z28 rfl Tryz.underlying28 (by kernel_rfl) (.cons (.t rfl) .nil) (Fills.cons SConf.l_default rfl Fills.nil)) ?_
  refine cons (alloc z28 (fun b3 => ?_))
  refine cons (stv ty28 (Lens.id _) (.t rfl) (.t rfl) ?_)
  refine nP (seq (takeNil iE 3 ?_))
  refine region (co (fA 0 (.t rfl)) ?_)
  refine co (Ev.ldv ty22 (.t rfl) SConf.l_ports) ?_
  refine co (fA 0 (.t rfl)) ?_
  refine co (Ev.ldx c.ports ty22 (.t rfl) SConf.l_ports) ?_
  refine cons (app (E := iE) Tryz.underlying22 ty3 zb3 zs3 (.t rfl) (.t rfl) (fun v4 => ?_) (hsrc := (fun w I => (hc.keep0 I.keeps).ps)) (hby := ⟨by (show _ ≤ 9223372036854775807); simp only [List.length_nil]; omega, by simp only [List.length_nil]; omega⟩))
  refine co (fA 0 (.t rfl)) ?_
  refine cons (stv ty22 SConf.l_ports (.t rfl) (.t rfl) ?_)
  refine nP (seq (takeNil eRoute 102 ?_))
  refine region (co (fA 1 (.t rfl)) ?_)
  refine co (Ev.ldv ty23 (.t rfl) SConf.l_routes) ?_
  refine co (fA 1 (.t rfl)) ?_
  refine co (Ev.ldx c.routes ty23 (.t rfl) SConf.l_routes) ?_
  refine cons (app (E := eRoute) Tryz.underlying23 ty102 zb102 zs102 (.t rfl) (.t rfl) (fun v5 => ?_) (hsrc := (fun w I => (hc.keep0 I.keeps).rs)) (hby := ⟨by (show _ ≤ 9223372036854775807); simp only [List.length_nil]; omega, by simp only [List.length_nil]; omega⟩))
  refine co (fA 1 (.t rfl)) ?_
  refine cons (stv ty23 SConf.l_routes (.t rfl) (.t rfl) ?_)
  refine nP (seq (takeNil eRule 93 ?_))
  refine region (co (fA 2 (.t rfl)) ?_)
  refine co (Ev.ldv ty24 (.t rfl) SConf.l_rules) ?_
  refine co (fA 2 (.t rfl)) ?_
  refine co (Ev.ldx c.rules ty24 (.t rfl) SConf.l_rules) ?_
  refine cons (app (E := eRule) Tryz.underlying24 ty93 zb93 zs93 (.t rfl) (.t rfl) (fun v6 => ?_) (hsrc := (fun w I => (hc.keep0 I.keeps).us)) (hby := ⟨by (show _ ≤ 9223372036854775807); simp only [List.length_nil]; omega, by simp only [List.length_nil]; omega⟩))
  refine co (fA 2 (.t rfl)) ?_
  refine cons (stv ty24 SConf.l_rules (.t rfl) (.t rfl) ?_)
  refine nP (seq (takeNil eMeterConf 81 ?_))
  refine region (co (fA 3 (.t rfl)) ?_)
  refine co (Ev.ldv ty25 (.t rfl) SConf.l_meters) ?_
  refine co (fA 3 (.t rfl)) ?_
  refine co (Ev.ldx c.meters ty25 (.t rfl) SConf.l_meters) ?_
  refine cons (app (E := eMeterConf) Tryz.underlying25 ty81 zb81 zs81 (.t rfl) (.t rfl) (fun v7 => ?_) (hsrc := (fun w I => (hc.keep0 I.keeps).ms)) (hby := ⟨by (show _ ≤ 9223372036854775807); simp only [List.length_nil]; omega, by simp only [List.length_nil]; omega⟩))
  refine co (fA 3 (.t rfl)) ?_
  refine cons (stv ty25 SConf.l_meters (.t rfl) (.t rfl) ?_)
  refine nP (seq (takeNil eMirrorConf 83 ?_))
  refine region (co (fA 4 (.t rfl)) ?_)
  refine co (Ev.ldv ty26 (.t rfl) SConf.l_mirrors) ?_
  refine co (fA 4 (.t rfl)) ?_
  refine co (Ev.ldx c.mirrors ty26 (.t rfl) SConf.l_mirrors) ?_
  refine cons (app (E := eMirrorConf) Tryz.underlying26 ty83 zb83 zs83 (.t rfl) (.t rfl) (fun v8 => ?_) (hsrc := (fun w I => (hc.keep0 I.keeps).xs)) (hby := ⟨by (show _ ≤ 9223372036854775807); simp only [List.length_nil]; omega, by simp only [List.length_nil]; omega⟩))
  refine co (fA 4 (.t rfl)) ?_
  refine cons (stv ty26 SConf.l_mirrors (.t rfl) (.t rfl) ?_)
  refine nP (sg (co (Ev.ldv ty28 (.t rfl) (Lens.id _)) ?_))
  refine cons (stv ty28 (Lens.id _) (.t rfl) (.t rfl) ?_)
  refine nP (ret (done rfl (.cell rfl (fun w I => run_loadVar_pts ty28 (ptsVar (by repeat first | exact mH | apply mT | apply mA) (Lens.id _) w I)) .nil) (fun w I => ?_)))
  exact retNP (⟨v4, v5, v6, v7, v8⟩ : CB) trivial rfl (by repeat first | exact SubP.nil | refine SubP.cons (by repeat first | exact Rem.head | apply Rem.tail) ?_) w I
end Go.Proofs.YtmdkmclgfgaahaaGreat
namespace Go.Proofs.YtmdkmclgfgaahaaGreat
open Go Go.Gx Go.Proofs.YtmdkmclgfgaahaaGreat.Tri
theorem en5 : Gx.Enters Tryz.prog 5 := Gx.Enters.mk' (by kernel_rfl)
theorem en11 : Gx.Enters Tryz.prog 11 := Gx.Enters.mk' (by kernel_rfl)
theorem en6 : Gx.Enters Tryz.prog 6 := Gx.Enters.mk' (by kernel_rfl)
theorem en12 : Gx.Enters Tryz.prog 12 := Gx.Enters.mk' (by kernel_rfl)
theorem en13 : Gx.Enters Tryz.prog 13 := Gx.Enters.mk' (by kernel_rfl)
theorem en14 : Gx.Enters Tryz.prog 14 := Gx.Enters.mk' (by kernel_rfl)
theorem ty45 : TyOK Tryz.prog 45 eLaw22Came := TyOK.mk' (by kernel_rfl) (by kernel_rfl)
theorem en15 : Gx.Enters Tryz.prog 15 := Gx.Enters.mk' (by kernel_rfl)
theorem en17 : Gx.Enters Tryz.prog 17 := Gx.Enters.mk' (by kernel_rfl)
set_option maxRecDepth 8000 in
theorem PlanDecides_walk (c : SConf) (l : CL) (u : Value) (xs : List SLaw22Came) (dts : List (List UInt8)) (w : World) (hc : ConfAt w c l) (hn : l.Names) (hz : l.n ≤ 4611686018427387904) (hf : l.Fits) (hu : IsSl eLaw22Came w u xs) (hpk : PksAt w xs dts) : Calls Tryz.prog 4 #[eConf.val c, u] w (RetV w (.bool true)) := by
  have hle := hu.le
  have hl1 := hc.rs.le
  refine en0 111 Tryz.func4 ?_
  refine sg (cons (box (E := eConf) (.t rfl) (fun b1 => ?_)))
  refine co (Ev.assign (.c (v := .bool false) rfl)) ?_
  refine nP (seq (seq (emp0 ?_)))
  refine region (cons (callv en5 .nil (fun w I => works_ok w) ?_))
  refine co (Ev.not (.t rfl)) ?_
  refine nP (condF rfl (rfl) ?_)
  refine skip (pN (sg (co (Ev.ldx c ty28 (.t rfl) (Lens.id _)) ?_)))
  refine cons (calln (X := CB) (fun _ => True) (fun x => eConf.val (x.c c.default)) (fun x => x.R l) en11 (.cons (.t rfl) .nil) (fun w I => rcopy_big c l w (hc.keep0 I.keeps) hf) (fun x1 _ => ?_))
  refine cons (alloc z28 (fun b2 => ?_))
  refine cons (stv ty28 (Lens.id _) (.t rfl) (.t rfl) ?_)
  refine nP (sg (co (Ev.to (v' := eConf.val (x1.c c.default)) (Ev.ldv ty28 (.t rfl) (Lens.id _)) (rfl)) ?_))
  refine cons (calln (X := Pl × List Res) (CompileJ l c.default) (fun x : Pl × List Res => .tuple #[.pointer (plO l c.default x.1.b), I (plE l c.default)]) (fun x => x.2) en7 (.cons (.t rfl) .nil) (fun w I => compile_plan (x1.c c.default) l w (co5 (x := x1) (l := l) w I) hn hz) (fun x2 hx2 => ?_))
  refine mv rfl (co (Ev.extract (.t rfl) rfl) (co (Ev.extract (.t rfl) rfl) (asn rfl (asn rfl (nP (seq (seq (takeSeps (r := Emp) (by repeat first | exact Rem.head | apply Rem.tail) ?_))))))))
  refine region (co (Ev.ldx c ty28 (.t rfl) (Lens.id _)) ?_)
  refine cons (callv en6 (.cons (.t rfl) .nil) (fun w I => rmay_ok c l w (hc.keep0 I.keeps) hn hz) ?_)
  refine co (Ev.not (.t rfl)) ?_
  refine nP ?_
  first | refine condD rfl (fun h1 => ?_) (fun h1 => ?_) | refine cond rfl (fun h1 => ?_) (fun h1 => ?_)
  · have hmay : ¬ mayB l c.default = true := by simpa using h1
    refine sg (co (Ev.to (v' := .pointer none) (Ev.move (.t rfl)) (congrArg Value.pointer (if_neg hmay))) ?_)
    refine co (Ev.eql_p Tryz.underlying32 (.t rfl) (.c rfl)) ?_
    refine mv rfl (cg rfl rfl (Ev.to (v' := I 210) (Ev.move (.t rfl)) (congrArg Gx.I (if_neg hmay))) ?_)
    refine cg rfl rfl (Ev.eql_i (.g rfl id) (.c (v := I 210) rfl)) ?_
    refine co (Ev.pkA (.t rfl) rfl) ?_
    refine asn rfl (nP (ret (pR (done rfl (.tmp rfl .nil) (retE ?_)))))
    rfl
  · have hmay : mayB l c.default = true := by simpa using h1
    obtain ⟨hpo, hpa⟩ := hx2 hmay
    have hlens := may_lens hmay
    have hsm : l.Small := ⟨by omega, by omega, by omega, by omega, by omega⟩
    refine skip (pN (seq (sg (co (Ev.to (v' := .pointer (some ⟨x2.1.b, 0, none⟩)) (Ev.move (.t rfl)) (congrArg Value.pointer (if_pos hmay))) ?_))))
    refine co (Ev.to (v' := .bool false) (Ev.eql_p Tryz.underlying32 (.t rfl) (.c rfl)) (rfl)) ?_
    refine mv rfl (cg rfl rfl (Ev.to (v' := I 0) (Ev.move (.t rfl)) (congrArg Gx.I (if_pos hmay))) ?_)
    refine cg rfl rfl (Ev.to (v' := .bool false) (Ev.neq_i (.g rfl id) (.c (v := I 0) rfl)) (congrArg Value.bool (by simp))) ?_
    refine co (Ev.to (v' := .bool false) (Ev.pkO (.t rfl) rfl) (rfl)) ?_
    refine mv rfl (cg rfl rfl (Ev.to (v' := eConf.val (x1.c c.default)) (Ev.ldv ty28 (.t rfl) (Lens.id _)) (rfl)) ?_)
    refine cg rfl rfl (Ev.ldx c ty28 (.t rfl) (Lens.id _)) ?_
    refine cons (callg rfl rfl en12 (.cons (.g rfl id) (.cons (.g rfl id) .nil)) (fun hg w I => rexact_ok (x1.c c.default) c l l w (co5 (x := x1) (l := l) w I) (hc.keep0 I.keeps)) ?_)
    refine cg rfl rfl (Ev.to (v' := .bool false) (Ev.not (.g rfl id)) (congrArg Value.bool (by show (!exactB l l c.default c.default) = false; rw [exactB_self]; rfl))) ?_
    refine co (Ev.to (v' := .bool false) (Ev.pkO (.t rfl) rfl) (rfl)) ?_
    refine nP (condF rfl (rfl) ?_)
    refine skip (pN (seq (sepsIn (r := OwnS x1.o1.v iE l.ps 3) (l := [OwnS x1.o2.v eRoute l.rs 102, OwnS x1.o3.v eRule l.us 93, OwnS x1.o4.v eMeterConf l.ms 81, OwnS x1.o5.v eMirrorConf l.xs 83]) (M := [Seps Emp x2.2, Var b2 eConf (x1.c c.default) 28, Var b1 eConf c 28]) (by repeat first | exact SubP.nil | refine SubP.cons (by repeat first | exact Rem.head | apply Rem.tail) ?_) ?_)))
    refine region (co (Ev.to (v' := eConf.val (x1.c c.default)) (Ev.ldv ty28 (.t rfl) (Lens.id _)) (rfl)) ?_)
    refine cons (callr (X := Unit) (r := OC x1 l) (r' := fun _ => Emp) (fun _ => True) (fun _ => .tuple #[]) (fun _ => by repeat first | exact Upd.head | apply Upd.tail | apply Upd.right) (by repeat first | exact mH | apply mT | apply mA) en13 (.cons (.t rfl) .nil) (fun w I => spoil_ok x1 l c.default w (am w I) hsm) (fun _ _ => ?_))
    refine nP (sg (co (Ev.to (v' := .pointer (some ⟨x2.1.b, 0, none⟩)) (Ev.move (.t rfl)) (congrArg Value.pointer (if_pos hmay))) ?_))
    refine cons (calln (X := CB) (fun _ => True) (fun x => eConf.val (x.c c.default)) (fun x => x.R l) en14 (.cons (.t rfl) .nil) (fun w I => conf_plan x2.1 l c.default w (pl_at hpa (by repeat first | exact mH | apply mT | apply mA) w I) hpo) (fun x3 _ => ?_))
    refine co (Ev.to (v' := .pointer (some ⟨x2.1.b, 0, none⟩)) (Ev.move (.t rfl)) (congrArg Value.pointer (if_pos hmay))) ?_
    refine cons (calln (X := CB) (fun _ => True) (fun x => eConf.val (x.c c.default)) (fun x => x.R l) en14 (.cons (.t rfl) .nil) (fun w I => conf_plan x2.1 l c.default w (pl_at hpa (by repeat first | exact mH | apply mT | apply mA) w I) hpo) (fun x4 _ => ?_))
    refine cons (alloc z28 (fun b3 => ?_))
    refine cons (alloc z28 (fun b4 => ?_))
    refine cons (stv ty28 (Lens.id _) (.t rfl) (.t rfl) ?_)
    refine cons (stv ty28 (Lens.id _) (.t rfl) (.t rfl) ?_)
    refine nP (seq (sg (co (Ev.to (v' := eConf.val (x3.c c.default)) (Ev.ldv ty28 (.t rfl) (Lens.id _)) (rfl)) ?_)))
    refine co (Ev.ldx c ty28 (.t rfl) (Lens.id _)) ?_
    refine cons (callv en12 (.cons (.t rfl) (.cons (.t rfl) .nil)) (fun w I => rexact_ok (x3.c c.default) c l l w (co5 (x := x3) (l := l) w I) (hc.keep0 I.keeps)) ?_)
    refine co (Ev.to (v' := .bool false) (Ev.not (.t rfl)) (congrArg Value.bool (by show (!exactB l l c.default c.default) = false; rw [exactB_self]; rfl))) ?_
    refine nP (condF rfl (rfl) ?_)
    refine skip (pN (seq (sepsIn (r := OwnS x3.o1.v iE l.ps 3) (l := [OwnS x3.o2.v eRoute l.rs 102, OwnS x3.o3.v eRule l.us 93, OwnS x3.o4.v eMeterConf l.ms 81, OwnS x3.o5.v eMirrorConf l.xs 83]) (M := [Var b4 eConf (x4.c c.default) 28, Var b3 eConf (x3.c c.default) 28, OwnS x4.o1.v iE l.ps 3, OwnS x4.o2.v eRoute l.rs 102, OwnS x4.o3.v eRule l.us 93, OwnS x4.o4.v eMeterConf l.ms 81, OwnS x4.o5.v eMirrorConf l.xs 83, Seps Emp x2.2, Var b1 eConf c 28]) (by repeat first | exact SubP.nil | refine SubP.cons (by repeat first | exact Rem.head | apply Rem.tail) ?_) ?_)))
    refine region (co (Ev.to (v' := eConf.val (x3.c c.default)) (Ev.ldv ty28 (.t rfl) (Lens.id _)) (rfl)) ?_)
    refine cons (callr (X := Unit) (r := OC x3 l) (r' := fun _ => Emp) (fun _ => True) (fun _ => .tuple #[]) (fun _ => by repeat first | exact Upd.head | apply Upd.tail | apply Upd.right) (by repeat first | exact mH | apply mT | apply mA) en13 (.cons (.t rfl) .nil) (fun w I => spoil_ok x3 l c.default w (am w I) hsm) (fun _ _ => ?_))
    refine nP (seq (sg (co (Ev.to (v' := eConf.val (x4.c c.default)) (Ev.ldv ty28 (.t rfl) (Lens.id _)) (rfl)) ?_)))
    refine co (Ev.ldx c ty28 (.t rfl) (Lens.id _)) ?_
    refine cons (callv en12 (.cons (.t rfl) (.cons (.t rfl) .nil)) (fun w I => rexact_ok (x4.c c.default) c l l w (co5 (x := x4) (l := l) w I) (hc.keep0 I.keeps)) ?_)
    refine co (Ev.to (v' := .bool false) (Ev.not (.t rfl)) (congrArg Value.bool (by show (!exactB l l c.default c.default) = false; rw [exactB_self]; rfl))) ?_
    refine nP (condF rfl (rfl) ?_)
    refine skip (pN (seq (sg (co (Ev.assign (.c (v := I 0) rfl)) ?_))))
    refine nP (block (lp (X := Int) (fun x : Int => (0 ≤ x ∧ x ≤ xs.length)) (fun x : Int => [dz, (1, true, u), (2, true, .pointer (some ⟨b1, 0, none⟩)), (6, true, .pointer (plO l c.default x2.1.b)), (10, true, I x)]) (fun x : Int => [Seps Emp x2.2, Var b1 eConf c 28]) (fun x : Int => ((xs.length : Int) - x).toNat) (0) ?_ (fun x hx => ?_)))
    · omega
    obtain ⟨i, rfl⟩ : ∃ y, y = x := ⟨x, rfl⟩
    have hi : 0 ≤ i ∧ i ≤ xs.length := hx
    clear hx
    show Sat _ _ [dz, (1, true, u), (2, true, .pointer (some ⟨b1, 0, none⟩)), (6, true, .pointer (plO l c.default x2.1.b)), (10, true, I i)] [Seps Emp x2.2, Var b1 eConf c 28]
    refine seq (sg (mv rfl (mv rfl (co (Ev.len Tryz.underlying29 (.t rfl) (fun w I => hu.keep0 I.keeps)) ?_))))
    refine co (Ev.lss_i (.t rfl) (.t rfl)) ?_
    refine mv rfl (cg rfl rfl (Ev.move (.t rfl)) ?_)
    refine cg rfl rfl (Ev.lss_i (.g rfl id) (.c (v := I 60) rfl)) ?_
    refine co (Ev.pkA (.t rfl) rfl) ?_
    refine nP ?_
    first | refine condD rfl (fun h5 => ?_) (fun h5 => ?_) | refine cond rfl (fun h5 => ?_) (fun h5 => ?_)
    · try simp only [Gx.nb] at h5
      refine skip (pN (seq (block (sg (co (Ev.to (v' := .pointer (some ⟨x2.1.b, 0, none⟩)) (Ev.move (.t rfl)) (congrArg Value.pointer (if_pos hmay))) ?_)))))
      refine mv rfl (mv rfl (co (Ev.indexAddr Tryz.underlying29 ty45 (.t rfl) (.t rfl) (fun w I => hu.keep0 I.keeps) (fun _ => by omega)) ?_))
      refine co (Ev.fieldAddrS (o := 1) (i := i) (.t rfl) (fun w I => hu.keep0 I.keeps) (fun _ => by omega) (by kernel_rfl)) ?_
      refine co (Ev.fieldAddrS (o := 17) (i := i) (.t rfl) (fun w I => hu.keep0 I.keeps) (fun _ => by omega) (by kernel_rfl)) ?_
      refine co (Ev.loadS ty38 (Lens.comp SLaw22Came.l_h SHeader.l_dst) rfl (.t rfl) (fun w I => hu.keep0 I.keeps) (fun _ => by omega)) ?_
      refine cons (callv en15 (.cons (.t rfl) (.cons (.t rfl) .nil)) (fun w I => route_plan x2.1 l c.default (xs.getD i.toNat eLaw22Came.zero).h.dst w (pl_at hpa (by repeat first | exact mH | apply mT | apply mA) w I) hpo) ?_)
      refine mv rfl (co (Ev.extract (.t rfl) rfl) (co (Ev.extract (.t rfl) rfl) (asn rfl (asn rfl (nP (seq (draw' (by kernel_rfl) ?_)))))))
      refine tk 0 rfl (Ev.ldx c ty28 (.t rfl) (Lens.id _)) ?_
      refine tk 1 rfl (Ev.move (.t rfl)) ?_
      refine tk 2 rfl (Ev.move (.t rfl)) ?_
      refine tk 3 rfl (Ev.indexAddr Tryz.underlying29 ty45 (.t rfl) (.t rfl) (fun w I => hu.keep0 I.keeps) (fun _ => by omega)) ?_
      refine tk 4 rfl (Ev.fieldAddrS (o := 1) (i := i) (.t rfl) (fun w I => hu.keep0 I.keeps) (fun _ => by omega) (by kernel_rfl)) ?_
      refine tk 5 rfl (Ev.fieldAddrS (o := 17) (i := i) (.t rfl) (fun w I => hu.keep0 I.keeps) (fun _ => by omega) (by kernel_rfl)) ?_
      refine tk 6 rfl (Ev.loadS ty38 (Lens.comp SLaw22Came.l_h SHeader.l_dst) rfl (.t rfl) (fun w I => hu.keep0 I.keeps) (fun _ => by omega)) ?_
      refine al1 7 rfl ((callv en16 (.cons (.t rfl) (.cons (.t rfl) .nil)) (fun w I => rroute22 c l (xs.getD i.toNat eLaw22Came.zero).h.dst w (hc.keep0 I.keeps)) ?_))
      refine hdn (tk 8 rfl (Ev.move (.t rfl)) ?_)
      refine tk 9 rfl (Ev.extract (.t rfl) rfl) ?_
      refine tk 10 rfl (Ev.extract (.t rfl) rfl) ?_
      refine tk 11 rfl (Ev.assign (.t rfl)) ?_
      refine tk 12 rfl (Ev.assign (.t rfl)) ?_
      refine ovr (pN (seq (draw' (by kernel_rfl) ?_)))
      refine tk 0 rfl (Ev.move (.t rfl)) ?_
      refine tk 1 rfl (Ev.move (.t rfl)) ?_
      refine tk 2 rfl (Ev.to (v' := .bool false) (Ev.neq_i (.t rfl) (.t rfl)) (congrArg Value.bool (by simp))) ?_
      refine tk 3 rfl (Ev.move (.t rfl)) ?_
      refine tkg 4 rfl rfl rfl (Ev.move (.t rfl)) ?_
      refine tkg 5 rfl rfl rfl (Ev.move (.t rfl)) ?_
      refine tkg 6 rfl rfl rfl (Ev.to (v' := .bool false) (Ev.neq_b Tryz.underlying4 (.g rfl id) (.g rfl id)) (congrArg Value.bool (by simp))) ?_
      refine tk 7 rfl (Ev.to (v' := .bool false) (Ev.pkO (.t rfl) rfl) (rfl)) ?_
      refine tk 8 rfl (Ev.move (.t rfl)) ?_
      refine tkg 9 rfl rfl rfl (Ev.to (v' := .pointer (some ⟨x2.1.b, 0, none⟩)) (Ev.move (.t rfl)) (congrArg Value.pointer (if_pos hmay))) ?_
      refine tkg 10 rfl rfl rfl (Ev.ldx c ty28 (.t rfl) (Lens.id _)) ?_
      refine tkg 11 rfl rfl rfl (Ev.move (.t rfl)) ?_
      refine tkg 12 rfl rfl rfl (Ev.move (.t rfl)) ?_
      refine tkg 13 rfl rfl rfl (Ev.indexAddr Tryz.underlying29 ty45 (.g rfl id) (.g rfl id) (fun w I => hu.keep0 I.keeps) (fun _ => by first | omega | (rename_i hg; simp at hg; omega))) ?_
      refine tkg 14 rfl rfl rfl (Ev.loadS0 ty45 (.g rfl id) (fun w I => hu.keep0 I.keeps) (fun _ => by first | omega | (rename_i hg; simp at hg; omega))) ?_
      refine al1 15 rfl ((callg rfl rfl en17 (.cons (.g rfl id) (.cons (.g rfl id) (.cons (.g rfl id) .nil))) (fun hg w I => decided_ok x2.1 c l (xs.getD i.toNat eLaw22Came.zero) (dts.getD i.toNat []) w (pl_at hpa (by repeat first | exact mH | apply mT | apply mA) w I) hpo (hc.keep0 I.keeps) ((hpk.sl _ (by omega)).keep0 I.keeps) (hpk.ln _ (by omega))) ?_))
      refine hdn (tkg 16 rfl rfl rfl (Ev.to (v' := .bool false) (Ev.not (.g rfl id)) (rfl)) ?_)
      refine tk 17 rfl (Ev.to (v' := .bool false) (Ev.pkO (.t rfl) rfl) (rfl)) ?_
      refine ovr (pN (condF rfl (rfl) ?_))
      refine skip (bN (pN (region (mv rfl (co (Ev.add_i (.t rfl) (.c (v := I 1) rfl) (fun _ => by omega)) ?_)))))
      refine asn rfl (nP (nx (X := Int) (i + 1) ?_ ?_))
      · try dsimp only
        omega
      · try dsimp only
        omega
    · try simp only [Gx.nb] at h5
      refine exit (pX (pX (bX (pN (sg (co (Ev.assign (.c (v := .bool true) rfl)) ?_))))))
      refine nP (ret (done rfl (.tmp rfl .nil) (retE ?_)))
      rfl
end Go.Proofs.YtmdkmclgfgaahaaGreat
