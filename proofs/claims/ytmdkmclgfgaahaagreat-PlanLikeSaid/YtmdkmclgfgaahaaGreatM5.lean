/- Part. -/
import Derived.Test.YtmdkmclgfgaahaaGreatM4
set_option linter.unusedVariables false
set_option linter.unusedSimpArgs false
set_option linter.unusedSectionVars false
namespace Go.Proofs.YtmdkmclgfgaahaaGreat
open Go Go.Gx Go.Proofs.YtmdkmclgfgaahaaGreat.Tri
theorem rckport_ok (c : SConf) (l : CL) (i : Int) (w : World) (hc : ConfAt w c l) (hi : 0 ≤ i ∧ i < l.ps.length) : Calls Tryz.prog 69 #[eConf.val c, I i] w (RetV w (I (portE l.ps (l.ps.getD i.toNat iE.zero) i))) := by
  have hle := hc.ps.le
  refine en0 35 Tryz.func69 ?_
  refine sg (cons (box (E := eConf) (.t rfl) (fun b1 => ?_)))
  refine co (Ev.assign (.c (v := I 0) rfl)) ?_
  refine nP (seq (sg (co (fA 0 (.t rfl)) ?_)))
  refine co (Ev.ldx c.ports ty22 (.t rfl) SConf.l_ports) ?_
  refine mv rfl (co (Ev.indexAddr Tryz.underlying22 ty3 (.t rfl) (.t rfl) (fun w I => (hc.keep0 I.keeps).ps) (fun _ => by omega)) ?_)
  refine co (Ev.loadS0 ty3 (.t rfl) (fun w I => (hc.keep0 I.keeps).ps) (fun _ => by omega)) ?_
  refine co (Ev.lss_i (.t rfl) (.c (v := I 0) rfl)) ?_
  refine mv rfl (cg rfl rfl (fA 0 (.t rfl)) ?_)
  refine cg rfl rfl (Ev.ldx c.ports ty22 (.g rfl id) SConf.l_ports) ?_
  refine cg rfl rfl (Ev.move (.t rfl)) ?_
  refine cg rfl rfl (Ev.indexAddr Tryz.underlying22 ty3 (.g rfl id) (.g rfl id) (fun w I => (hc.keep0 I.keeps).ps) (fun _ => by first | omega | (rename_i hg; simp at hg; omega))) ?_
  refine cg rfl rfl (Ev.loadS0 ty3 (.g rfl id) (fun w I => (hc.keep0 I.keeps).ps) (fun _ => by first | omega | (rename_i hg; simp at hg; omega))) ?_
  refine cg rfl rfl (Ev.gtr_i (.g rfl id) (.c (v := I 255) rfl)) ?_
  refine co (Ev.pkO (.t rfl) rfl) ?_
  refine nP ?_
  first | refine condD rfl (fun h0 => ?_) (fun h0 => ?_) | refine cond rfl (fun h0 => ?_) (fun h0 => ?_)
  · refine sg (co (Ev.assign (.c (v := I 5) rfl)) ?_)
    refine nP (ret (pR (done rfl (.tmp rfl .nil) (retE ?_))))
    unfold portE; rw [if_pos (by simpa using h0)]; rfl
  · refine skip (pN (seq (seq (draw' (by kernel_rfl) ?_))))
    refine tk 0 rfl (Ev.move (.t rfl)) ?_
    refine tk 1 rfl (Ev.gtr_i (.t rfl) (.c (v := I 0) rfl)) ?_
    refine tk 2 rfl (Ev.move (.t rfl)) ?_
    refine tkg 3 rfl rfl rfl (fA 0 (.t rfl)) ?_
    refine tkg 4 rfl rfl rfl (Ev.ldx c.ports ty22 (.g rfl id) SConf.l_ports) ?_
    refine tkg 5 rfl rfl rfl (Ev.move (.t rfl)) ?_
    refine tkg 6 rfl rfl rfl (Ev.indexAddr Tryz.underlying22 ty3 (.g rfl id) (.g rfl id) (fun w I => (hc.keep0 I.keeps).ps) (fun _ => by first | omega | (rename_i hg; simp at hg; omega))) ?_
    refine tkg 7 rfl rfl rfl (Ev.loadS0 ty3 (.g rfl id) (fun w I => (hc.keep0 I.keeps).ps) (fun _ => by first | omega | (rename_i hg; simp at hg; omega))) ?_
    refine tkg 8 rfl rfl rfl (fA 0 (.t rfl)) ?_
    refine tkg 9 rfl rfl rfl (Ev.ldx c.ports ty22 (.g rfl id) SConf.l_ports) ?_
    refine tkg 10 rfl rfl rfl (Ev.move (.t rfl)) ?_
    refine tkg 11 rfl rfl rfl (Ev.sub_i (.g rfl id) (.c (v := I 1) rfl) (fun _ => by first | omega | (rename_i hg; simp at hg; omega))) ?_
    refine tkg 12 rfl rfl rfl (Ev.indexAddr Tryz.underlying22 ty3 (.g rfl id) (.g rfl id) (fun w I => (hc.keep0 I.keeps).ps) (fun _ => by first | omega | (rename_i hg; simp at hg; omega))) ?_
    refine tkg 13 rfl rfl rfl (Ev.loadS0 ty3 (.g rfl id) (fun w I => (hc.keep0 I.keeps).ps) (fun _ => by first | omega | (rename_i hg; simp at hg; omega))) ?_
    refine tkg 14 rfl rfl rfl (Ev.leq_i (.g rfl id) (.g rfl id)) ?_
    refine tk 15 rfl (Ev.pkA (.t rfl) rfl) ?_
    refine ovr (pN ?_)
    first | refine condD rfl (fun h1 => ?_) (fun h1 => ?_) | refine cond rfl (fun h1 => ?_) (fun h1 => ?_)
    · refine sg (co (Ev.assign (.c (v := I 2) rfl)) ?_)
      refine nP (ret (pR (done rfl (.tmp rfl .nil) (retE ?_))))
      have ez : (iE.zero : Int) = 0 := rfl
      unfold portE; rw [if_neg (by simpa using h0), if_pos (by simpa [ez] using h1)]; rfl
    · refine skip (pN (sg (co (Ev.assign (.c (v := I 0) rfl)) ?_)))
      refine nP (ret (done rfl (.tmp rfl .nil) (retE ?_)))
      have ez : (iE.zero : Int) = 0 := rfl
      unfold portE; rw [if_neg (by simpa using h0), if_neg (by simpa [ez] using h1)]; rfl
theorem en105 : Gx.Enters Tryz.prog 105 := Gx.Enters.mk' (by kernel_rfl)
theorem en106 : Gx.Enters Tryz.prog 106 := Gx.Enters.mk' (by kernel_rfl)
theorem en107 : Gx.Enters Tryz.prog 107 := Gx.Enters.mk' (by kernel_rfl)
theorem rckroute_ok (c : SConf) (l : CL) (i : Int) (w : World) (hc : ConfAt w c l) (hi : 0 ≤ i ∧ i < l.rs.length) : Calls Tryz.prog 70 #[eConf.val c, I i] w (RetV w (I (routeE l (l.rs.getD i.toNat eRoute.zero) i))) := by
  have hle := hc.rs.le
  have hix := find_at SPrefix.eqb_iff (fun r => r.to_) l.rs eRoute.zero i.toNat (by omega)
  have hix3 : (findV SPrefix.eqb (l.rs.getD i.toNat eRoute.zero).to_ (routesM l)).getD 0 = idxF (fun z => SPrefix.eqb z.to_ (l.rs.getD i.toNat eRoute.zero).to_) l.rs := hix
  refine en0 26 Tryz.func70 ?_
  refine sg (cons (box (E := eConf) (.t rfl) (fun b1 => ?_)))
  refine co (Ev.assign (.c (v := I 0) rfl)) ?_
  refine nP (sg (co (fA 1 (.t rfl)) ?_))
  refine co (Ev.ldx c.routes ty23 (.t rfl) SConf.l_routes) ?_
  refine mv rfl (co (Ev.indexAddr Tryz.underlying23 ty102 (.t rfl) (.t rfl) (fun w I => (hc.keep0 I.keeps).rs) (fun _ => by omega)) ?_)
  refine co (Ev.loadS0 ty102 (.t rfl) (fun w I => (hc.keep0 I.keeps).rs) (fun _ => by omega)) ?_
  refine cons (alloc z102 (fun b2 => ?_))
  refine cons (stv ty102 (Lens.id _) (.t rfl) (.t rfl) ?_)
  refine nP (seq (sg (co (fA 0 (.t rfl)) ?_)))
  refine co (Ev.ldv ty89 (.t rfl) SRoute.l_to_) ?_
  refine cons (callv en105 (.cons (.t rfl) .nil) (fun w I => r15check_ok _ w) ?_)
  refine co (Ev.neq_i (.t rfl) (.c (v := I 0) rfl)) ?_
  refine nP ?_
  first | refine condD rfl (fun h0 => ?_) (fun h0 => ?_) | refine cond rfl (fun h0 => ?_) (fun h0 => ?_)
  · refine sg (co (Ev.assign (.c (v := I 151) rfl)) ?_)
    refine nP (ret (pR (done rfl (.tmp rfl .nil) (retE ?_))))
    have p0 : checkP (l.rs.getD i.toNat eRoute.zero).to_ ≠ 0 := by simpa using h0
    unfold routeE
    rw [if_pos p0]
    rfl
  · refine skip (pN (seq (sg (co (Ev.ldx c ty28 (.t rfl) (Lens.id _)) ?_))))
    refine co (fA 18 (.t rfl)) ?_
    refine co (Ev.ldv ty3 (.t rfl) SRoute.l_out) ?_
    refine cons (callv en106 (.cons (.t rfl) (.cons (.t rfl) .nil)) (fun w I => rport_ok c l _ w (hc.keep0 I.keeps)) ?_)
    refine co (Ev.not (.t rfl)) ?_
    refine nP ?_
    first | refine condD rfl (fun h1 => ?_) (fun h1 => ?_) | refine cond rfl (fun h1 => ?_) (fun h1 => ?_)
    · refine sg (co (Ev.assign (.c (v := I 5) rfl)) ?_)
      refine nP (ret (pR (done rfl (.tmp rfl .nil) (retE ?_))))
      have n0 : ¬ (checkP (l.rs.getD i.toNat eRoute.zero).to_ ≠ 0) := by simpa using h0
      have p1 : portB l (l.rs.getD i.toNat eRoute.zero).out = false := by simpa using h1
      unfold routeE
      rw [if_neg n0, if_pos p1]
      rfl
    · refine skip (pN (seq (sg (co (Ev.ldx c ty28 (.t rfl) (Lens.id _)) ?_))))
      refine co (fA 0 (.t rfl)) ?_
      refine co (Ev.ldv ty89 (.t rfl) SRoute.l_to_) ?_
      refine cons (callv en107 (.cons (.t rfl) (.cons (.t rfl) .nil)) (fun w I => rroute_ix c l _ w (hc.keep0 I.keeps)) ?_)
      refine mv rfl (co (Ev.lss_i (.t rfl) (.t rfl)) ?_)
      refine nP ?_
      first | refine condD rfl (fun h2 => ?_) (fun h2 => ?_) | refine cond rfl (fun h2 => ?_) (fun h2 => ?_)
      · refine sg (co (Ev.assign (.c (v := I 2) rfl)) ?_)
        refine nP (ret (pR (done rfl (.tmp rfl .nil) (retE ?_))))
        have n0 : ¬ (checkP (l.rs.getD i.toNat eRoute.zero).to_ ≠ 0) := by simpa using h0
        have n1 : ¬ (portB l (l.rs.getD i.toNat eRoute.zero).out = false) := by simpa using h1
        have p2 : (findV SPrefix.eqb (l.rs.getD i.toNat eRoute.zero).to_ (routesM l)).getD 0 < i := by rw [hix3]; simpa using h2
        unfold routeE
        rw [if_neg n0, if_neg n1, if_pos p2]
        rfl
      · refine skip (pN (sg (co (Ev.assign (.c (v := I 0) rfl)) ?_)))
        refine nP (ret (done rfl (.tmp rfl .nil) (retE ?_)))
        have n0 : ¬ (checkP (l.rs.getD i.toNat eRoute.zero).to_ ≠ 0) := by simpa using h0
        have n1 : ¬ (portB l (l.rs.getD i.toNat eRoute.zero).out = false) := by simpa using h1
        have n2 : ¬ ((findV SPrefix.eqb (l.rs.getD i.toNat eRoute.zero).to_ (routesM l)).getD 0 < i) := by rw [hix3]; simpa using h2
        unfold routeE
        rw [if_neg n0, if_neg n1, if_neg n2]
        rfl
theorem en108 : Gx.Enters Tryz.prog 108 := Gx.Enters.mk' (by kernel_rfl)
theorem en110 : Gx.Enters Tryz.prog 110 := Gx.Enters.mk' (by kernel_rfl)
theorem en112 : Gx.Enters Tryz.prog 112 := Gx.Enters.mk' (by kernel_rfl)
theorem rckmeter_ok (c : SConf) (l : CL) (i : Int) (w : World) (hc : ConfAt w c l) (hi : 0 ≤ i ∧ i < l.ms.length) (hn : l.Names) : Calls Tryz.prog 72 #[eConf.val c, I i] w (RetV w (I (meterE l (l.ms.getD i.toNat eMeterConf.zero) i))) := by
  have hle := hc.ms.le
  have hs := hn.ms (l.ms.getD i.toNat eMeterConf.zero) (getD_in _ _ _ (by omega))
  have hix := find_at eqs_iff (fun r => r.name) l.ms eMeterConf.zero i.toNat (by omega)
  have hix3 := by
    have hix2 : (findV eqs (l.ms.getD i.toNat eMeterConf.zero).name (metersM l)).getD 0 = idxF (fun z => decide (z.name = (l.ms.getD i.toNat eMeterConf.zero).name)) l.ms := by
      refine hix.trans (congrArg (fun p => idxF p l.ms) (funext fun z => eqs_dec _ _))
    exact hix2
  refine en0 27 Tryz.func72 ?_
  refine sg (cons (box (E := eConf) (.t rfl) (fun b1 => ?_)))
  refine co (Ev.assign (.c (v := I 0) rfl)) ?_
  refine nP (sg (co (fA 3 (.t rfl)) ?_))
  refine co (Ev.ldx c.meters ty25 (.t rfl) SConf.l_meters) ?_
  refine mv rfl (co (Ev.indexAddr Tryz.underlying25 ty81 (.t rfl) (.t rfl) (fun w I => (hc.keep0 I.keeps).ms) (fun _ => by omega)) ?_)
  refine co (Ev.loadS0 ty81 (.t rfl) (fun w I => (hc.keep0 I.keeps).ms) (fun _ => by omega)) ?_
  refine cons (alloc z81 (fun b2 => ?_))
  refine cons (stv ty81 (Lens.id _) (.t rfl) (.t rfl) ?_)
  refine nP (seq (sg (co (fA 0 (.t rfl)) ?_)))
  refine co (Ev.ldv ty9 (.t rfl) SMeterConf.l_name) ?_
  refine cons (callv en108 (.cons (.t rfl) .nil) (fun w I => rname_ok _ w hs) ?_)
  refine co (Ev.not (.t rfl)) ?_
  refine nP ?_
  first | refine condD rfl (fun h0 => ?_) (fun h0 => ?_) | refine cond rfl (fun h0 => ?_) (fun h0 => ?_)
  · refine sg (co (Ev.assign (.c (v := I 201) rfl)) ?_)
    refine nP (ret (pR (done rfl (.tmp rfl .nil) (retE ?_))))
    have p0 : nameB (l.ms.getD i.toNat eMeterConf.zero).name = false := by simpa using h0
    unfold meterE
    rw [if_pos p0]
    rfl
  · refine skip (pN (seq (sg (co (Ev.ldx c ty28 (.t rfl) (Lens.id _)) ?_))))
    refine co (fA 0 (.t rfl)) ?_
    refine co (Ev.ldv ty9 (.t rfl) SMeterConf.l_name) ?_
    refine cons (callv en110 (.cons (.t rfl) (.cons (.t rfl) .nil)) (fun w I => rmeter_ix c l _ w (hc.keep0 I.keeps)) ?_)
    refine mv rfl (co (Ev.lss_i (.t rfl) (.t rfl)) ?_)
    refine mv rfl (cg rfl rfl (fA 1 (.t rfl)) ?_)
    refine cg rfl rfl (Ev.ldv ty79 (.g rfl id) SMeterConf.l_bucket) ?_
    refine cons (callg rfl rfl en112 (.cons (.g rfl id) .nil) (fun hg w I => rbucket_ok _ w) ?_)
    refine cg rfl rfl (Ev.neq_i (.g rfl id) (.c (v := I 0) rfl)) ?_
    refine co (Ev.pkO (.t rfl) rfl) ?_
    refine nP ?_
    first | refine condD rfl (fun h1 => ?_) (fun h1 => ?_) | refine cond rfl (fun h1 => ?_) (fun h1 => ?_)
    · refine sg (co (Ev.assign (.c (v := I 2) rfl)) ?_)
      refine nP (ret (pR (done rfl (.tmp rfl .nil) (retE ?_))))
      have n0 : ¬ (nameB (l.ms.getD i.toNat eMeterConf.zero).name = false) := by simpa using h0
      have p1 : (findV eqs (l.ms.getD i.toNat eMeterConf.zero).name (metersM l)).getD 0 < i ∨ ckB (l.ms.getD i.toNat eMeterConf.zero).bucket ≠ 0 := by rw [hix3]; simpa using h1
      unfold meterE
      rw [if_neg n0, if_pos p1]
      rfl
    · refine skip (pN (sg (co (Ev.assign (.c (v := I 0) rfl)) ?_)))
      refine nP (ret (done rfl (.tmp rfl .nil) (retE ?_)))
      have n0 : ¬ (nameB (l.ms.getD i.toNat eMeterConf.zero).name = false) := by simpa using h0
      have n1 : ¬ ((findV eqs (l.ms.getD i.toNat eMeterConf.zero).name (metersM l)).getD 0 < i ∨ ckB (l.ms.getD i.toNat eMeterConf.zero).bucket ≠ 0) := by rw [hix3]; simpa using h1
      unfold meterE
      rw [if_neg n0, if_neg n1]
      rfl
theorem en111 : Gx.Enters Tryz.prog 111 := Gx.Enters.mk' (by kernel_rfl)
theorem en113 : Gx.Enters Tryz.prog 113 := Gx.Enters.mk' (by kernel_rfl)
theorem rckmirror_ok (c : SConf) (l : CL) (i : Int) (w : World) (hc : ConfAt w c l) (hi : 0 ≤ i ∧ i < l.xs.length) (hn : l.Names) : Calls Tryz.prog 73 #[eConf.val c, I i] w (RetV w (I (mirrorE l (l.xs.getD i.toNat eMirrorConf.zero) i))) := by
  have hle := hc.xs.le
  have hs := hn.xs (l.xs.getD i.toNat eMirrorConf.zero) (getD_in _ _ _ (by omega))
  have hix := find_at eqs_iff (fun r => r.name) l.xs eMirrorConf.zero i.toNat (by omega)
  have hix3 := by
    have hix2 : (findV eqs (l.xs.getD i.toNat eMirrorConf.zero).name (mirrorsM l)).getD 0 = idxF (fun z => decide (z.name = (l.xs.getD i.toNat eMirrorConf.zero).name)) l.xs := by
      refine hix.trans (congrArg (fun p => idxF p l.xs) (funext fun z => eqs_dec _ _))
    exact hix2
  refine en0 30 Tryz.func73 ?_
  refine sg (cons (box (E := eConf) (.t rfl) (fun b1 => ?_)))
  refine co (Ev.assign (.c (v := I 0) rfl)) ?_
  refine nP (sg (co (fA 4 (.t rfl)) ?_))
  refine co (Ev.ldx c.mirrors ty26 (.t rfl) SConf.l_mirrors) ?_
  refine mv rfl (co (Ev.indexAddr Tryz.underlying26 ty83 (.t rfl) (.t rfl) (fun w I => (hc.keep0 I.keeps).xs) (fun _ => by omega)) ?_)
  refine co (Ev.loadS0 ty83 (.t rfl) (fun w I => (hc.keep0 I.keeps).xs) (fun _ => by omega)) ?_
  refine cons (alloc z83 (fun b2 => ?_))
  refine cons (stv ty83 (Lens.id _) (.t rfl) (.t rfl) ?_)
  refine nP (seq (sg (co (fA 0 (.t rfl)) ?_)))
  refine co (Ev.ldv ty9 (.t rfl) SMirrorConf.l_name) ?_
  refine cons (callv en108 (.cons (.t rfl) .nil) (fun w I => rname_ok _ w hs) ?_)
  refine co (Ev.not (.t rfl)) ?_
  refine nP ?_
  first | refine condD rfl (fun h0 => ?_) (fun h0 => ?_) | refine cond rfl (fun h0 => ?_) (fun h0 => ?_)
  · refine sg (co (Ev.assign (.c (v := I 201) rfl)) ?_)
    refine nP (ret (pR (done rfl (.tmp rfl .nil) (retE ?_))))
    have p0 : nameB (l.xs.getD i.toNat eMirrorConf.zero).name = false := by simpa using h0
    unfold mirrorE
    rw [if_pos p0]
    rfl
  · refine skip (pN (seq (sg (co (Ev.ldx c ty28 (.t rfl) (Lens.id _)) ?_))))
    refine co (fA 0 (.t rfl)) ?_
    refine co (Ev.ldv ty9 (.t rfl) SMirrorConf.l_name) ?_
    refine cons (callv en111 (.cons (.t rfl) (.cons (.t rfl) .nil)) (fun w I => rmirror_ix c l _ w (hc.keep0 I.keeps)) ?_)
    refine mv rfl (co (Ev.lss_i (.t rfl) (.t rfl)) ?_)
    refine nP ?_
    first | refine condD rfl (fun h1 => ?_) (fun h1 => ?_) | refine cond rfl (fun h1 => ?_) (fun h1 => ?_)
    · refine sg (co (Ev.assign (.c (v := I 2) rfl)) ?_)
      refine nP (ret (pR (done rfl (.tmp rfl .nil) (retE ?_))))
      have n0 : ¬ (nameB (l.xs.getD i.toNat eMirrorConf.zero).name = false) := by simpa using h0
      have p1 : (findV eqs (l.xs.getD i.toNat eMirrorConf.zero).name (mirrorsM l)).getD 0 < i := by rw [hix3]; simpa using h1
      unfold mirrorE
      rw [if_neg n0, if_pos p1]
      rfl
    · refine skip (pN (seq (sg (co (Ev.ldx c ty28 (.t rfl) (Lens.id _)) ?_))))
      refine co (fA 1 (.t rfl)) ?_
      refine co (Ev.ldv ty3 (.t rfl) SMirrorConf.l_out) ?_
      refine cons (callv en106 (.cons (.t rfl) (.cons (.t rfl) .nil)) (fun w I => rport_ok c l _ w (hc.keep0 I.keeps)) ?_)
      refine co (Ev.not (.t rfl)) ?_
      refine nP ?_
      first | refine condD rfl (fun h2 => ?_) (fun h2 => ?_) | refine cond rfl (fun h2 => ?_) (fun h2 => ?_)
      · refine sg (co (Ev.assign (.c (v := I 5) rfl)) ?_)
        refine nP (ret (pR (done rfl (.tmp rfl .nil) (retE ?_))))
        have n0 : ¬ (nameB (l.xs.getD i.toNat eMirrorConf.zero).name = false) := by simpa using h0
        have n1 : ¬ ((findV eqs (l.xs.getD i.toNat eMirrorConf.zero).name (mirrorsM l)).getD 0 < i) := by rw [hix3]; simpa using h1
        have p2 : portB l (l.xs.getD i.toNat eMirrorConf.zero).out = false := by simpa using h2
        unfold mirrorE
        rw [if_neg n0, if_neg n1, if_pos p2]
        rfl
      · refine skip (pN (seq (sg (co (fA 2 (.t rfl)) ?_))))
        refine co (Ev.ldv ty3 (.t rfl) SMirrorConf.l_room) ?_
        refine cons (callv en113 (.cons (.t rfl) .nil) (fun w I => rroom_ok _ w) ?_)
        refine co (Ev.not (.t rfl)) ?_
        refine nP ?_
        first | refine condD rfl (fun h3 => ?_) (fun h3 => ?_) | refine cond rfl (fun h3 => ?_) (fun h3 => ?_)
        · refine sg (co (Ev.assign (.c (v := I 2) rfl)) ?_)
          refine nP (ret (pR (done rfl (.tmp rfl .nil) (retE ?_))))
          have n0 : ¬ (nameB (l.xs.getD i.toNat eMirrorConf.zero).name = false) := by simpa using h0
          have n1 : ¬ ((findV eqs (l.xs.getD i.toNat eMirrorConf.zero).name (mirrorsM l)).getD 0 < i) := by rw [hix3]; simpa using h1
          have n2 : ¬ (portB l (l.xs.getD i.toNat eMirrorConf.zero).out = false) := by simpa using h2
          have p3 : roomB (l.xs.getD i.toNat eMirrorConf.zero).room = false := by simpa using h3
          unfold mirrorE
          rw [if_neg n0, if_neg n1, if_neg n2, if_pos p3]
          rfl
        · refine skip (pN (sg (co (Ev.assign (.c (v := I 0) rfl)) ?_)))
          refine nP (ret (done rfl (.tmp rfl .nil) (retE ?_)))
          have n0 : ¬ (nameB (l.xs.getD i.toNat eMirrorConf.zero).name = false) := by simpa using h0
          have n1 : ¬ ((findV eqs (l.xs.getD i.toNat eMirrorConf.zero).name (mirrorsM l)).getD 0 < i) := by rw [hix3]; simpa using h1
          have n2 : ¬ (portB l (l.xs.getD i.toNat eMirrorConf.zero).out = false) := by simpa using h2
          have n3 : ¬ (roomB (l.xs.getD i.toNat eMirrorConf.zero).room = false) := by simpa using h3
          unfold mirrorE
          rw [if_neg n0, if_neg n1, if_neg n2, if_neg n3]
          rfl
theorem en109 : Gx.Enters Tryz.prog 109 := Gx.Enters.mk' (by kernel_rfl)
set_option maxRecDepth 8000 in
theorem rckrule_ok (c : SConf) (l : CL) (i : Int) (w : World) (hc : ConfAt w c l) (hi : 0 ≤ i ∧ i < l.us.length) (hn : l.Names) : Calls Tryz.prog 71 #[eConf.val c, I i] w (RetV w (I (ruleE l (l.us.getD i.toNat eRule.zero) i))) := by
  have hle := hc.us.le
  have hs := hn.us (l.us.getD i.toNat eRule.zero) (getD_in _ _ _ (by omega))
  have hix := find_at eqs_iff (fun r => r.name) l.us eRule.zero i.toNat (by omega)
  have hix3 := by
    have hix2 : (findV eqs (l.us.getD i.toNat eRule.zero).name (rulesM l)).getD 0 = idxF (fun z => decide (z.name = (l.us.getD i.toNat eRule.zero).name)) l.us := by
      refine hix.trans (congrArg (fun p => idxF p l.us) (funext fun z => eqs_dec _ _))
    exact hix2
  have hm_meter : inM (metersM l) (l.us.getD i.toNat eRule.zero).meter = decide (¬ idxF (fun z => decide (z.name = (l.us.getD i.toNat eRule.zero).meter)) l.ms < 0) := by
    unfold inM metersM
    rw [find_idx eqs_iff]
    simp only [eqs_dec]
  have hm_mirror : inM (mirrorsM l) (l.us.getD i.toNat eRule.zero).mirror = decide (¬ idxF (fun z => decide (z.name = (l.us.getD i.toNat eRule.zero).mirror)) l.xs < 0) := by
    unfold inM mirrorsM
    rw [find_idx eqs_iff]
    simp only [eqs_dec]
  refine en0 75 Tryz.func71 ?_
  refine sg (cons (box (E := eConf) (.t rfl) (fun b1 => ?_)))
  refine co (Ev.assign (.c (v := I 0) rfl)) ?_
  refine nP (sg (co (fA 2 (.t rfl)) ?_))
  refine co (Ev.ldx c.rules ty24 (.t rfl) SConf.l_rules) ?_
  refine mv rfl (co (Ev.indexAddr Tryz.underlying24 ty93 (.t rfl) (.t rfl) (fun w I => (hc.keep0 I.keeps).us) (fun _ => by omega)) ?_)
  refine co (Ev.loadS0 ty93 (.t rfl) (fun w I => (hc.keep0 I.keeps).us) (fun _ => by omega)) ?_
  refine cons (alloc z93 (fun b2 => ?_))
  refine cons (stv ty93 (Lens.id _) (.t rfl) (.t rfl) ?_)
  refine nP (seq (sg (co (fA 0 (.t rfl)) ?_)))
  refine co (Ev.ldv ty9 (.t rfl) SRule.l_name) ?_
  refine cons (callv en108 (.cons (.t rfl) .nil) (fun w I => rname_ok _ w hs) ?_)
  refine co (Ev.not (.t rfl)) ?_
  refine nP ?_
  first | refine condD rfl (fun h0 => ?_) (fun h0 => ?_) | refine cond rfl (fun h0 => ?_) (fun h0 => ?_)
  · refine sg (co (Ev.assign (.c (v := I 201) rfl)) ?_)
    refine nP (ret (pR (done rfl (.tmp rfl .nil) (retE ?_))))
    have p0 : nameB (l.us.getD i.toNat eRule.zero).name = false := by simpa using h0
    unfold ruleE
    rw [if_pos p0]
    rfl
  · refine skip (pN (seq (sg (co (Ev.ldx c ty28 (.t rfl) (Lens.id _)) ?_))))
    refine co (fA 0 (.t rfl)) ?_
    refine co (Ev.ldv ty9 (.t rfl) SRule.l_name) ?_
    refine cons (callv en109 (.cons (.t rfl) (.cons (.t rfl) .nil)) (fun w I => rrule_ix c l _ w (hc.keep0 I.keeps)) ?_)
    refine mv rfl (co (Ev.lss_i (.t rfl) (.t rfl)) ?_)
    refine nP ?_
    first | refine condD rfl (fun h1 => ?_) (fun h1 => ?_) | refine cond rfl (fun h1 => ?_) (fun h1 => ?_)
    · refine sg (co (Ev.assign (.c (v := I 2) rfl)) ?_)
      refine nP (ret (pR (done rfl (.tmp rfl .nil) (retE ?_))))
      have n0 : ¬ (nameB (l.us.getD i.toNat eRule.zero).name = false) := by simpa using h0
      have p1 : (findV eqs (l.us.getD i.toNat eRule.zero).name (rulesM l)).getD 0 < i := by rw [hix3]; simpa using h1
      unfold ruleE
      rw [if_neg n0, if_pos p1]
      rfl
    · refine skip (pN (seq (sg (co (fA 1 (.t rfl)) ?_))))
      refine co (Ev.ldv ty91 (.t rfl) SRule.l_match_) ?_
      refine cons (callv en98 (.cons (.t rfl) .nil) (fun w I => rcheck_ok _ w) ?_)
      refine co (Ev.not (.t rfl)) ?_
      refine nP ?_
      first | refine condD rfl (fun h2 => ?_) (fun h2 => ?_) | refine cond rfl (fun h2 => ?_) (fun h2 => ?_)
      · refine sg (co (Ev.assign (.c (v := I 190) rfl)) ?_)
        refine nP (ret (pR (done rfl (.tmp rfl .nil) (retE ?_))))
        have n0 : ¬ (nameB (l.us.getD i.toNat eRule.zero).name = false) := by simpa using h0
        have n1 : ¬ ((findV eqs (l.us.getD i.toNat eRule.zero).name (rulesM l)).getD 0 < i) := by rw [hix3]; simpa using h1
        have p2 : okM (l.us.getD i.toNat eRule.zero).match_ = false := by simpa using h2
        unfold ruleE
        rw [if_neg n0, if_neg n1, if_pos p2]
        rfl
      · refine skip (pN (seq (sg (co (fA 45 (.t rfl)) ?_))))
        refine co (Ev.ldv ty3 (.t rfl) SRule.l_action) ?_
        refine co (Ev.lss_i (.t rfl) (.c (v := I 1) rfl)) ?_
        refine mv rfl (cg rfl rfl (fA 45 (.t rfl)) ?_)
        refine cg rfl rfl (Ev.ldv ty3 (.g rfl id) SRule.l_action) ?_
        refine cg rfl rfl (Ev.gtr_i (.g rfl id) (.c (v := I 4) rfl)) ?_
        refine co (Ev.pkO (.t rfl) rfl) ?_
        refine nP ?_
        first | refine condD rfl (fun h3 => ?_) (fun h3 => ?_) | refine cond rfl (fun h3 => ?_) (fun h3 => ?_)
        · refine sg (co (Ev.assign (.c (v := I 2) rfl)) ?_)
          refine nP (ret (pR (done rfl (.tmp rfl .nil) (retE ?_))))
          have n0 : ¬ (nameB (l.us.getD i.toNat eRule.zero).name = false) := by simpa using h0
          have n1 : ¬ ((findV eqs (l.us.getD i.toNat eRule.zero).name (rulesM l)).getD 0 < i) := by rw [hix3]; simpa using h1
          have n2 : ¬ (okM (l.us.getD i.toNat eRule.zero).match_ = false) := by simpa using h2
          have p3 : (l.us.getD i.toNat eRule.zero).action < 1 ∨ 4 < (l.us.getD i.toNat eRule.zero).action := by simpa using h3
          unfold ruleE
          rw [if_neg n0, if_neg n1, if_neg n2, if_pos p3]
          rfl
        · refine skip (pN (seq (sg (co (fA 45 (.t rfl)) ?_))))
          refine co (Ev.ldv ty3 (.t rfl) SRule.l_action) ?_
          refine co (Ev.eql_i (.t rfl) (.c (v := I 3) rfl)) ?_
          refine mv rfl (cg rfl rfl (Ev.ldx c ty28 (.t rfl) (Lens.id _)) ?_)
          refine cg rfl rfl (fA 46 (.t rfl)) ?_
          refine cg rfl rfl (Ev.ldv ty3 (.g rfl id) SRule.l_out) ?_
          refine cons (callg rfl rfl en106 (.cons (.g rfl id) (.cons (.g rfl id) .nil)) (fun hg w I => rport_ok c l _ w (hc.keep0 I.keeps)) ?_)
          refine cg rfl rfl (Ev.not (.g rfl id)) ?_
          refine co (Ev.pkA (.t rfl) rfl) ?_
          refine mv rfl (cg rfl rfl (fA 45 (.t rfl)) ?_)
          refine cg rfl rfl (Ev.ldv ty3 (.g rfl id) SRule.l_action) ?_
          refine cg rfl rfl (Ev.neq_i (.g rfl id) (.c (v := I 3) rfl)) ?_
          refine cg rfl rfl (Ev.move (.g rfl id)) ?_
          refine cg rfl rfl (fA 46 (.t rfl)) ?_
          refine cg rfl rfl (Ev.ldv ty3 (.g rfl id) SRule.l_out) ?_
          refine cg rfl rfl (Ev.neq_i (.g rfl id) (.c (v := I 0) rfl)) ?_
          refine cg rfl rfl (Ev.pkA (.g rfl id) rfl) ?_
          refine co (Ev.pkO (.t rfl) rfl) ?_
          refine nP ?_
          first | refine condD rfl (fun h4 => ?_) (fun h4 => ?_) | refine cond rfl (fun h4 => ?_) (fun h4 => ?_)
          · refine sg (co (Ev.assign (.c (v := I 5) rfl)) ?_)
            refine nP (ret (pR (done rfl (.tmp rfl .nil) (retE ?_))))
            have n0 : ¬ (nameB (l.us.getD i.toNat eRule.zero).name = false) := by simpa using h0
            have n1 : ¬ ((findV eqs (l.us.getD i.toNat eRule.zero).name (rulesM l)).getD 0 < i) := by rw [hix3]; simpa using h1
            have n2 : ¬ (okM (l.us.getD i.toNat eRule.zero).match_ = false) := by simpa using h2
            have n3 : ¬ ((l.us.getD i.toNat eRule.zero).action < 1 ∨ 4 < (l.us.getD i.toNat eRule.zero).action) := by simpa using h3
            have p4 : ruleO l (l.us.getD i.toNat eRule.zero) = true := by unfold ruleO; by_cases ea : (l.us.getD i.toNat eRule.zero).action = 3 <;> simp_all
            unfold ruleE
            rw [if_neg n0, if_neg n1, if_neg n2, if_neg n3, if_pos p4]
            rfl
          · refine skip (pN (seq (sg (co (fA 47 (.t rfl)) ?_))))
            refine co (Ev.ldv ty9 (.t rfl) SRule.l_meter) ?_
            refine co (Ev.neq_s (.t rfl) (.c (v := (Go.Value.string (ByteArray.mk #[]))) rfl)) ?_
            refine mv rfl (cg rfl rfl (Ev.ldx c ty28 (.t rfl) (Lens.id _)) ?_)
            refine cg rfl rfl (fA 47 (.t rfl)) ?_
            refine cg rfl rfl (Ev.ldv ty9 (.g rfl id) SRule.l_meter) ?_
            refine cons (callg rfl rfl en110 (.cons (.g rfl id) (.cons (.g rfl id) .nil)) (fun hg w I => rmeter_ix c l _ w (hc.keep0 I.keeps)) ?_)
            refine cg rfl rfl (Ev.lss_i (.g rfl id) (.c (v := I 0) rfl)) ?_
            refine co (Ev.pkA (.t rfl) rfl) ?_
            refine mv rfl (cg rfl rfl (fA 48 (.t rfl)) ?_)
            refine cg rfl rfl (Ev.ldv ty9 (.g rfl id) SRule.l_mirror) ?_
            refine cg rfl rfl (Ev.neq_s (.g rfl id) (.c (v := (Go.Value.string (ByteArray.mk #[]))) rfl)) ?_
            refine cg rfl rfl (Ev.move (.g rfl id)) ?_
            refine cg rfl rfl (Ev.ldx c ty28 (.t rfl) (Lens.id _)) ?_
            refine cg rfl rfl (fA 48 (.t rfl)) ?_
            refine cg rfl rfl (Ev.ldv ty9 (.g rfl id) SRule.l_mirror) ?_
            refine cons (callg rfl rfl en111 (.cons (.g rfl id) (.cons (.g rfl id) .nil)) (fun hg w I => rmirror_ix c l _ w (hc.keep0 I.keeps)) ?_)
            refine cg rfl rfl (Ev.lss_i (.g rfl id) (.c (v := I 0) rfl)) ?_
            refine cg rfl rfl (Ev.pkA (.g rfl id) rfl) ?_
            refine co (Ev.pkO (.t rfl) rfl) ?_
            refine nP ?_
            first | refine condD rfl (fun h5 => ?_) (fun h5 => ?_) | refine cond rfl (fun h5 => ?_) (fun h5 => ?_)
            · refine sg (co (Ev.assign (.c (v := I 210) rfl)) ?_)
              refine nP (ret (pR (done rfl (.tmp rfl .nil) (retE ?_))))
              have n0 : ¬ (nameB (l.us.getD i.toNat eRule.zero).name = false) := by simpa using h0
              have n1 : ¬ ((findV eqs (l.us.getD i.toNat eRule.zero).name (rulesM l)).getD 0 < i) := by rw [hix3]; simpa using h1
              have n2 : ¬ (okM (l.us.getD i.toNat eRule.zero).match_ = false) := by simpa using h2
              have n3 : ¬ ((l.us.getD i.toNat eRule.zero).action < 1 ∨ 4 < (l.us.getD i.toNat eRule.zero).action) := by simpa using h3
              have n4 : ¬ (ruleO l (l.us.getD i.toNat eRule.zero) = true) := by unfold ruleO; by_cases ea : (l.us.getD i.toNat eRule.zero).action = 3 <;> simp_all
              have p5 : ((l.us.getD i.toNat eRule.zero).meter ≠ ⟨#[]⟩ ∧ inM (metersM l) (l.us.getD i.toNat eRule.zero).meter = false) ∨ ((l.us.getD i.toNat eRule.zero).mirror ≠ ⟨#[]⟩ ∧ inM (mirrorsM l) (l.us.getD i.toNat eRule.zero).mirror = false) := by rw [hm_meter, hm_mirror]; simpa using h5
              unfold ruleE
              rw [if_neg n0, if_neg n1, if_neg n2, if_neg n3, if_neg n4, if_pos p5]
              rfl
            · refine skip (pN (sg (co (Ev.assign (.c (v := I 0) rfl)) ?_)))
              refine nP (ret (done rfl (.tmp rfl .nil) (retE ?_)))
              have n0 : ¬ (nameB (l.us.getD i.toNat eRule.zero).name = false) := by simpa using h0
              have n1 : ¬ ((findV eqs (l.us.getD i.toNat eRule.zero).name (rulesM l)).getD 0 < i) := by rw [hix3]; simpa using h1
              have n2 : ¬ (okM (l.us.getD i.toNat eRule.zero).match_ = false) := by simpa using h2
              have n3 : ¬ ((l.us.getD i.toNat eRule.zero).action < 1 ∨ 4 < (l.us.getD i.toNat eRule.zero).action) := by simpa using h3
              have n4 : ¬ (ruleO l (l.us.getD i.toNat eRule.zero) = true) := by unfold ruleO; by_cases ea : (l.us.getD i.toNat eRule.zero).action = 3 <;> simp_all
              have n5 : ¬ (((l.us.getD i.toNat eRule.zero).meter ≠ ⟨#[]⟩ ∧ inM (metersM l) (l.us.getD i.toNat eRule.zero).meter = false) ∨ ((l.us.getD i.toNat eRule.zero).mirror ≠ ⟨#[]⟩ ∧ inM (mirrorsM l) (l.us.getD i.toNat eRule.zero).mirror = false)) := by rw [hm_meter, hm_mirror]; simpa using h5
              unfold ruleE
              rw [if_neg n0, if_neg n1, if_neg n2, if_neg n3, if_neg n4, if_neg n5]
              rfl
end Go.Proofs.YtmdkmclgfgaahaaGreat
namespace Go.Proofs.YtmdkmclgfgaahaaGreat
open Go Go.Gx Go.Proofs.YtmdkmclgfgaahaaGreat.Tri
def szK (l : CL) (k : Nat) : Nat := [l.ps.length, l.rs.length, l.us.length, l.ms.length, l.xs.length].getD k 0
def limK (k : Nat) : Nat := [256, 1024, 256, 64, 16].getD k 0
def thingE (l : CL) (k i : Nat) : Int := if k = 0 then portE l.ps (l.ps.getD i iE.zero) i else if k = 1 then routeE l (l.rs.getD i eRoute.zero) i else if k = 2 then ruleE l (l.us.getD i eRule.zero) i else if k = 3 then meterE l (l.ms.getD i eMeterConf.zero) i else mirrorE l (l.xs.getD i eMirrorConf.zero) i
def baseK (l : CL) : Nat → Int
  | 0 => 0
  | k + 1 => baseK l k + (szK l k : Int)
def kindsF (l : CL) : Nat → List SFault
  | 0 => []
  | k + 1 => kindsF l k ++ listG (thingE l k) (baseK l k) (szK l k) (limK k)
theorem kindsF_all (l : CL) : kindsF l 5 = thingsF l := rfl
theorem baseK_all (l : CL) : baseK l 5 = 0 + (l.ps.length : Int) + l.rs.length + l.us.length + l.ms.length + l.xs.length := rfl
theorem baseK_nn (l : CL) : ∀ k, 0 ≤ baseK l k
  | 0 => Int.le_refl _
  | k + 1 => by have := baseK_nn l k; unfold baseK; omega
theorem baseK_le {l : CL} {n : Nat} (h : l.n ≤ n) : ∀ k, k ≤ 5 → baseK l k ≤ n := by
  intro k hk
  have h5 : baseK l 5 ≤ n := by rw [baseK_all]; unfold CL.n at h; omega
  have a4 : baseK l 5 = baseK l 4 + (szK l 4 : Int) := rfl
  have a3 : baseK l 4 = baseK l 3 + (szK l 3 : Int) := rfl
  have a2 : baseK l 3 = baseK l 2 + (szK l 2 : Int) := rfl
  have a1 : baseK l 2 = baseK l 1 + (szK l 1 : Int) := rfl
  have a0 : baseK l 1 = baseK l 0 + (szK l 0 : Int) := rfl
  have hk2 : k = 0 ∨ k = 1 ∨ k = 2 ∨ k = 3 ∨ k = 4 ∨ k = 5 := by omega
  rcases hk2 with rfl | rfl | rfl | rfl | rfl | rfl <;> omega
theorem lim_le : ∀ k, k < 5 → limK k ≤ 1024 := by
  have : ∀ q : Fin 5, limK q.val ≤ 1024 := by decide
  exact fun k hk => this ⟨k, hk⟩
theorem kindsF_len (l : CL) : ∀ k, k ≤ 5 → (kindsF l k).length ≤ k * 1025
  | 0, _ => by simp [kindsF]
  | k + 1, h => by
    have ih := kindsF_len l k (by omega)
    have hg := listG_len (thingE l k) (baseK l k) (szK l k) (limK k)
    have hl : limK k ≤ 1024 := by
      have : ∀ q : Fin 5, limK q.val ≤ 1024 := by decide
      exact this ⟨k, by omega⟩
    unfold kindsF
    rw [List.length_append]
    omega
theorem sz_vec (l : CL) (k : Nat) (hk : k < 5) : (#v[(l.ps.length : Int), l.rs.length, l.us.length, l.ms.length, l.xs.length] : Vector Int 5)[k] = (szK l k : Int) := by
  have h : k = 0 ∨ k = 1 ∨ k = 2 ∨ k = 3 ∨ k = 4 := by omega
  rcases h with rfl | rfl | rfl | rfl | rfl <;> rfl
theorem lim_vec (k : Nat) (hk : k < 5) : (#v[(256 : Int), 1024, 256, 64, 16] : Vector Int 5)[k] = (limK k : Int) := by
  have h : k = 0 ∨ k = 1 ∨ k = 2 ∨ k = 3 ∨ k = 4 := by omega
  rcases h with rfl | rfl | rfl | rfl | rfl <;> rfl
theorem en69 : Gx.Enters Tryz.prog 69 := Gx.Enters.mk' (by kernel_rfl)
theorem en70 : Gx.Enters Tryz.prog 70 := Gx.Enters.mk' (by kernel_rfl)
theorem en71 : Gx.Enters Tryz.prog 71 := Gx.Enters.mk' (by kernel_rfl)
theorem en72 : Gx.Enters Tryz.prog 72 := Gx.Enters.mk' (by kernel_rfl)
theorem en73 : Gx.Enters Tryz.prog 73 := Gx.Enters.mk' (by kernel_rfl)
theorem rthing_ok (c : SConf) (l : CL) (k : Nat) (i : Int) (w : World) (hc : ConfAt w c l) (hn : l.Names) (hk : k < 5) (hi : 0 ≤ i ∧ i < szK l k) : Calls Tryz.prog 37 #[eConf.val c, I (k : Int), I i] w (RetV w (I (thingE l k i.toNat))) := by
  refine en0 31 Tryz.func37 ?_
  refine sg (cons (box (E := eConf) (.t rfl) (fun b1 => ?_)))
  refine co (Ev.assign (.c (v := I 0) rfl)) ?_
  refine nP (seq (sg (mv rfl (nP (block (sg (co (Ev.eql_i (.t rfl) (.c (v := I 0) rfl)) ?_)))))))
  refine asn rfl (nP ?_)
  first | refine condD rfl (fun h0 => ?_) (fun h0 => ?_) | refine cond rfl (fun h0 => ?_) (fun h0 => ?_)
  · try simp only [Gx.nb] at h0
    refine seq ?_
    obtain rfl : k = 0 := by omega
    refine region (co (Ev.ldx c ty28 (.t rfl) (Lens.id _)) ?_)
    refine mv rfl (cons (callv en69 (.cons (.t rfl) (.cons (.t rfl) .nil)) (fun w I => rckport_ok c l _ w (hc.keep0 I.keeps) hi) ?_))
    refine asn rfl (nP (ret (bR (pR (done rfl (.tmp rfl .nil) (retE ?_))))))
    have ei : ((i.toNat : Nat) : Int) = i := by omega
    unfold thingE
    rw [ei]
    first
      | (rw [if_pos (by omega)]; rfl)
      | (rw [if_neg (by omega), if_pos (by omega)]; rfl)
      | (rw [if_neg (by omega), if_neg (by omega), if_pos (by omega)]; rfl)
      | (rw [if_neg (by omega), if_neg (by omega), if_neg (by omega), if_pos (by omega)]; rfl)
      | (rw [if_neg (by omega), if_neg (by omega), if_neg (by omega), if_neg (by omega)]; rfl)
  · try simp only [Gx.nb] at h0
    refine sg (co (Ev.eql_i (.t rfl) (.c (v := I 1) rfl)) ?_)
    refine asn rfl (nP ?_)
    first | refine condD rfl (fun h1 => ?_) (fun h1 => ?_) | refine cond rfl (fun h1 => ?_) (fun h1 => ?_)
    · try simp only [Gx.nb] at h1
      refine seq ?_
      obtain rfl : k = 1 := by omega
      refine region (co (Ev.ldx c ty28 (.t rfl) (Lens.id _)) ?_)
      refine mv rfl (cons (callv en70 (.cons (.t rfl) (.cons (.t rfl) .nil)) (fun w I => rckroute_ok c l _ w (hc.keep0 I.keeps) hi) ?_))
      refine asn rfl (nP (ret (bR (pR (done rfl (.tmp rfl .nil) (retE ?_))))))
      have ei : ((i.toNat : Nat) : Int) = i := by omega
      unfold thingE
      rw [ei]
      first
        | (rw [if_pos (by omega)]; rfl)
        | (rw [if_neg (by omega), if_pos (by omega)]; rfl)
        | (rw [if_neg (by omega), if_neg (by omega), if_pos (by omega)]; rfl)
        | (rw [if_neg (by omega), if_neg (by omega), if_neg (by omega), if_pos (by omega)]; rfl)
        | (rw [if_neg (by omega), if_neg (by omega), if_neg (by omega), if_neg (by omega)]; rfl)
    · try simp only [Gx.nb] at h1
      refine sg (co (Ev.eql_i (.t rfl) (.c (v := I 2) rfl)) ?_)
      refine asn rfl (nP ?_)
      first | refine condD rfl (fun h2 => ?_) (fun h2 => ?_) | refine cond rfl (fun h2 => ?_) (fun h2 => ?_)
      · try simp only [Gx.nb] at h2
        refine seq ?_
        obtain rfl : k = 2 := by omega
        refine region (co (Ev.ldx c ty28 (.t rfl) (Lens.id _)) ?_)
        refine mv rfl (cons (callv en71 (.cons (.t rfl) (.cons (.t rfl) .nil)) (fun w I => rckrule_ok c l _ w (hc.keep0 I.keeps) hi hn) ?_))
        refine asn rfl (nP (ret (bR (pR (done rfl (.tmp rfl .nil) (retE ?_))))))
        have ei : ((i.toNat : Nat) : Int) = i := by omega
        unfold thingE
        rw [ei]
        first
          | (rw [if_pos (by omega)]; rfl)
          | (rw [if_neg (by omega), if_pos (by omega)]; rfl)
          | (rw [if_neg (by omega), if_neg (by omega), if_pos (by omega)]; rfl)
          | (rw [if_neg (by omega), if_neg (by omega), if_neg (by omega), if_pos (by omega)]; rfl)
          | (rw [if_neg (by omega), if_neg (by omega), if_neg (by omega), if_neg (by omega)]; rfl)
      · try simp only [Gx.nb] at h2
        refine sg (co (Ev.eql_i (.t rfl) (.c (v := I 3) rfl)) ?_)
        refine asn rfl (nP ?_)
        first | refine condD rfl (fun h3 => ?_) (fun h3 => ?_) | refine cond rfl (fun h3 => ?_) (fun h3 => ?_)
        · try simp only [Gx.nb] at h3
          refine seq ?_
          obtain rfl : k = 3 := by omega
          refine region (co (Ev.ldx c ty28 (.t rfl) (Lens.id _)) ?_)
          refine mv rfl (cons (callv en72 (.cons (.t rfl) (.cons (.t rfl) .nil)) (fun w I => rckmeter_ok c l _ w (hc.keep0 I.keeps) hi hn) ?_))
          refine asn rfl (nP (ret (bR (pR (done rfl (.tmp rfl .nil) (retE ?_))))))
          have ei : ((i.toNat : Nat) : Int) = i := by omega
          unfold thingE
          rw [ei]
          first
            | (rw [if_pos (by omega)]; rfl)
            | (rw [if_neg (by omega), if_pos (by omega)]; rfl)
            | (rw [if_neg (by omega), if_neg (by omega), if_pos (by omega)]; rfl)
            | (rw [if_neg (by omega), if_neg (by omega), if_neg (by omega), if_pos (by omega)]; rfl)
            | (rw [if_neg (by omega), if_neg (by omega), if_neg (by omega), if_neg (by omega)]; rfl)
        · try simp only [Gx.nb] at h3
          refine skip (bN (pN (seq ?_)))
          obtain rfl : k = 4 := by omega
          refine region (co (Ev.ldx c ty28 (.t rfl) (Lens.id _)) ?_)
          refine mv rfl (cons (callv en73 (.cons (.t rfl) (.cons (.t rfl) .nil)) (fun w I => rckmirror_ok c l _ w (hc.keep0 I.keeps) hi hn) ?_))
          refine asn rfl (nP (ret (done rfl (.tmp rfl .nil) (retE ?_))))
          have ei : ((i.toNat : Nat) : Int) = i := by omega
          unfold thingE
          rw [ei]
          first
            | (rw [if_pos (by omega)]; rfl)
            | (rw [if_neg (by omega), if_pos (by omega)]; rfl)
            | (rw [if_neg (by omega), if_neg (by omega), if_pos (by omega)]; rfl)
            | (rw [if_neg (by omega), if_neg (by omega), if_neg (by omega), if_pos (by omega)]; rfl)
            | (rw [if_neg (by omega), if_neg (by omega), if_neg (by omega), if_neg (by omega)]; rfl)
theorem z112 : (Tryz.prog.info? 112).bind (·.zero) = some ((arrE 5 iE).val (arrE 5 iE).zero) := by kernel_rfl
theorem ty112 : TyOK Tryz.prog 112 (arrE 5 iE) := TyOK.mk' (by kernel_rfl) (by kernel_rfl)
theorem en37 : Gx.Enters Tryz.prog 37 := Gx.Enters.mk' (by kernel_rfl)
set_option maxRecDepth 8000 in
theorem rcheck_conf (c : SConf) (l : CL) (w : World) (hc : ConfAt w c l) (hn : l.Names) (hz : l.n ≤ 4611686018427387904) : Calls Tryz.prog 21 #[eConf.val c] w (RetO w eFault (checkF l c.default) 115) := by
  refine en0 99 Tryz.func21 ?_
  refine sg (cons (box (E := eConf) (.t rfl) (fun b1 => ?_)))
  refine co (Ev.assign (.c (v := (Go.Value.slice none 0 0)) rfl)) ?_
  refine nP (sg (co (fA 0 (.t rfl)) ?_))
  refine co (Ev.ldx c.ports ty22 (.t rfl) SConf.l_ports) ?_
  refine co (Ev.len Tryz.underlying22 (.t rfl) (fun w I => (hc.keep0 I.keeps).ps)) ?_
  refine co (fA 1 (.t rfl)) ?_
  refine co (Ev.ldx c.routes ty23 (.t rfl) SConf.l_routes) ?_
  refine co (Ev.len Tryz.underlying23 (.t rfl) (fun w I => (hc.keep0 I.keeps).rs)) ?_
  refine co (fA 2 (.t rfl)) ?_
  refine co (Ev.ldx c.rules ty24 (.t rfl) SConf.l_rules) ?_
  refine co (Ev.len Tryz.underlying24 (.t rfl) (fun w I => (hc.keep0 I.keeps).us)) ?_
  refine co (fA 3 (.t rfl)) ?_
  refine co (Ev.ldx c.meters ty25 (.t rfl) SConf.l_meters) ?_
  refine co (Ev.len Tryz.underlying25 (.t rfl) (fun w I => (hc.keep0 I.keeps).ms)) ?_
  refine co (fA 4 (.t rfl)) ?_
  refine co (Ev.ldx c.mirrors ty26 (.t rfl) SConf.l_mirrors) ?_
  refine co (Ev.len Tryz.underlying26 (.t rfl) (fun w I => (hc.keep0 I.keeps).xs)) ?_
  refine co (Ev.buildA z112 Tryz.underlying112 ty3 (.cons (.t rfl) (.cons (.t rfl) (.cons (.t rfl) (.cons (.t rfl) (.cons (.t rfl) .nil))))) (Fills.cons (lArr iE 0 (by decide)) rfl (Fills.cons (lArr iE 1 (by decide)) rfl (Fills.cons (lArr iE 2 (by decide)) rfl (Fills.cons (lArr iE 3 (by decide)) rfl (Fills.cons (lArr iE 4 (by decide)) rfl Fills.nil)))))) ?_
  refine cons (alloc z112 (fun b2 => ?_))
  refine cons (stv ty112 (Lens.id _) (.t rfl) (.t rfl) ?_)
  refine nP (sg (co (Ev.buildA z112 Tryz.underlying112 ty3 (.cons (.c (v := I 256) rfl) (.cons (.c (v := I 1024) rfl) (.cons (.c (v := I 256) rfl) (.cons (.c (v := I 64) rfl) (.cons (.c (v := I 16) rfl) .nil))))) (Fills.cons (lArr iE 0 (by decide)) rfl (Fills.cons (lArr iE 1 (by decide)) rfl (Fills.cons (lArr iE 2 (by decide)) rfl (Fills.cons (lArr iE 3 (by decide)) rfl (Fills.cons (lArr iE 4 (by decide)) rfl Fills.nil)))))) ?_))
  refine cons (alloc z112 (fun b3 => ?_))
  refine cons (stv ty112 (Lens.id _) (.t rfl) (.t rfl) ?_)
  refine nP (seq (takeNil eFault 115 ?_))
  refine region (co (Ev.assign (.c (v := (Go.Value.slice none 0 0)) rfl)) ?_)
  refine takeNil eFault 115 ?_
  refine nP (sg (co (Ev.assign (.c (v := I 0) rfl)) ?_))
  refine nP (seq (sg (co (Ev.assign (.c (v := I 0) rfl)) ?_)))
  refine nP (block (lp (X := Nat × OV) (fun x : Nat × OV => (x.1 ≤ 5)) (fun x : Nat × OV => [dz, (1, true, .pointer (some ⟨b1, 0, none⟩)), (3, true, .pointer (some ⟨b2, 0, none⟩)), (4, true, .pointer (some ⟨b3, 0, none⟩)), (5, true, x.2.v), (6, true, I (baseK l x.1)), (7, true, I (x.1 : Int))]) (fun x : Nat × OV => [OwnS x.2.v eFault (kindsF l x.1) 115, Var b3 (arrE 5 iE) (#v[(256 : Int), 1024, 256, 64, 16] : Vector Int 5) 112, Var b2 (arrE 5 iE) (#v[(l.ps.length : Int), l.rs.length, l.us.length, l.ms.length, l.xs.length] : Vector Int 5) 112, Var b1 eConf c 28]) (fun x : Nat × OV => 5 - x.1) (0, nilSl) ?_ (fun x hx => ?_)))
  · omega
  obtain ⟨k, q⟩ := x
  have hk : k ≤ 5 := hx
  clear hx
  show Sat _ _ [dz, (1, true, .pointer (some ⟨b1, 0, none⟩)), (3, true, .pointer (some ⟨b2, 0, none⟩)), (4, true, .pointer (some ⟨b3, 0, none⟩)), (5, true, q.v), (6, true, I (baseK l k)), (7, true, I (k : Int))] [OwnS q.v eFault (kindsF l k) 115, Var b3 (arrE 5 iE) (#v[(256 : Int), 1024, 256, 64, 16] : Vector Int 5) 112, Var b2 (arrE 5 iE) (#v[(l.ps.length : Int), l.rs.length, l.us.length, l.ms.length, l.xs.length] : Vector Int 5) 112, Var b1 eConf c 28]
  have hb0 := baseK_nn l k
  have hbl := baseK_le hz k hk
  refine seq (sg (co (Ev.to (v' := I (k : Int)) (Ev.move (.t rfl)) (rfl)) ?_))
  refine co (Ev.lss_i (.t rfl) (.c (v := I 5) rfl)) ?_
  refine nP ?_
  first | refine condD rfl (fun h0 => ?_) (fun h0 => ?_) | refine cond rfl (fun h0 => ?_) (fun h0 => ?_)
  · try simp only [Gx.nb] at h0
    have hkk : k < 5 := by omega
    have hlm : limK k ≤ 1024 := lim_le k hkk
    have hb1 := baseK_le hz (k + 1) (by omega)
    have hb2 : baseK l (k + 1) = baseK l k + (szK l k : Int) := rfl
    refine skip (pN (seq (block (seq (sg (co (Ev.assign (.c (v := I 0) rfl)) ?_))))))
    refine nP (block (lp (X := Int × OV) (fun x : Int × OV => (0 ≤ x.1 ∧ x.1 ≤ szK l k ∧ x.1 ≤ limK k)) (fun x : Int × OV => [dz, (1, true, .pointer (some ⟨b1, 0, none⟩)), (3, true, .pointer (some ⟨b2, 0, none⟩)), (4, true, .pointer (some ⟨b3, 0, none⟩)), (5, true, x.2.v), (6, true, I (baseK l k)), (7, true, I (k : Int)), (8, true, I x.1)]) (fun x : Int × OV => [OwnS x.2.v eFault (kindsF l k ++ faultsUp (thingE l k) (baseK l k) x.1.toNat) 115, Var b3 (arrE 5 iE) (#v[(256 : Int), 1024, 256, 64, 16] : Vector Int 5) 112, Var b2 (arrE 5 iE) (#v[(l.ps.length : Int), l.rs.length, l.us.length, l.ms.length, l.xs.length] : Vector Int 5) 112, Var b1 eConf c 28]) (fun x : Int × OV => ((szK l k : Int) - x.1).toNat) (0, q) ?_ (fun x hx => ?_) (hL := (by simp only [show (0 : Int).toNat = 0 from rfl, faultsUp, List.append_nil]; repeat first | exact sR | exact sN | apply sC | apply sS | apply sA))))
    · omega
    obtain ⟨i, q1⟩ := x
    have hi : 0 ≤ i ∧ i ≤ szK l k ∧ i ≤ limK k := hx
    clear hx
    show Sat _ _ [dz, (1, true, .pointer (some ⟨b1, 0, none⟩)), (3, true, .pointer (some ⟨b2, 0, none⟩)), (4, true, .pointer (some ⟨b3, 0, none⟩)), (5, true, q1.v), (6, true, I (baseK l k)), (7, true, I (k : Int)), (8, true, I i)] [OwnS q1.v eFault (kindsF l k ++ faultsUp (thingE l k) (baseK l k) i.toNat) 115, Var b3 (arrE 5 iE) (#v[(256 : Int), 1024, 256, 64, 16] : Vector Int 5) 112, Var b2 (arrE 5 iE) (#v[(l.ps.length : Int), l.rs.length, l.us.length, l.ms.length, l.xs.length] : Vector Int 5) 112, Var b1 eConf c 28]
    refine seq (sg (mv rfl (mv rfl (co (Ev.indexAddrA0 Tryz.underlying112 ty3 (.t rfl) (.t rfl) (fun _ => by omega)) ?_))))
    refine co (Ev.to (v' := I (szK l k : Nat)) (Ev.ldv ty3 (.t rfl) (lArr (n := 5) iE _ (by omega))) (congrArg I (sz_vec l k hkk))) ?_
    refine co (Ev.lss_i (.t rfl) (.t rfl)) ?_
    refine mv rfl (cg rfl rfl (Ev.move (.t rfl)) ?_)
    refine cg rfl rfl (Ev.move (.t rfl)) ?_
    refine cg rfl rfl (Ev.indexAddrA0 Tryz.underlying112 ty3 (.t rfl) (.g rfl id) (fun _ => by first | omega | (rename_i hg; simp at hg; omega))) ?_
    refine cg rfl rfl (Ev.to (v' := I (limK k : Nat)) (Ev.ldv ty3 (.g rfl id) (lArr (n := 5) iE _ (by first | omega | (rename_i hg; simp at hg; omega)))) (congrArg I (lim_vec k hkk))) ?_
    refine cg rfl rfl (Ev.lss_i (.g rfl id) (.g rfl id)) ?_
    refine co (Ev.pkA (.t rfl) rfl) ?_
    refine nP ?_
    first | refine condD rfl (fun h1 => ?_) (fun h1 => ?_) | refine cond rfl (fun h1 => ?_) (fun h1 => ?_)
    · try simp only [Gx.nb] at h1
      refine skip (pN (seq (block (sg (co (Ev.ldx c ty28 (.t rfl) (Lens.id _)) ?_)))))
      refine mv rfl (mv rfl (cons (callv en37 (.cons (.t rfl) (.cons (.t rfl) (.cons (.t rfl) .nil))) (fun w I => rthing_ok c l k _ w (hc.keep0 I.keeps) hn hkk (by omega)) ?_)))
      refine asn rfl (nP (sg (mv rfl (co (Ev.neq_i (.t rfl) (.c (v := I 0) rfl)) ?_))))
      refine nP ?_
      first | refine condD rfl (fun h2 => ?_) (fun h2 => ?_) | refine cond rfl (fun h2 => ?_) (fun h2 => ?_)
      · try simp only [Gx.nb] at h2
        have hst := faultsUp_bad (e := thingE l k) (d := baseK l k) hi.1 h2
        refine region (mv rfl (mv rfl (mv rfl (mv rfl (co (Ev.add_i (.t rfl) (.t rfl) (fun _ => by omega)) ?_)))))
        refine co (Ev.buildS (fs := _) (places := [(0, 1), (1, 1)]) z115 rfl Tryz.underlying115 (by kernel_rfl) (.cons (.t rfl) (.cons (.t rfl) .nil)) (Fills.cons SFault.l_code rfl (Fills.cons SFault.l_at_ rfl Fills.nil))) ?_
        refine cons (buildSlice (E := eFault) Tryz.underlying65 ty115 z115 (.cons (.t rfl) .nil) rfl rfl (fun v4 => ?_))
        refine cons (app (E := eFault) Tryz.underlying65 ty115 zb115 zs115 (.t rfl) (.t rfl) (fun v5 => ?_) (hby := ⟨by (show _ ≤ 9223372036854775807); have h1l := kindsF_len l k (by omega); have h2l := faultsUp_len (thingE l k) (baseK l k) i.toNat; simp only [List.length_append, List.length_cons, List.length_nil]; omega, by have h1l := kindsF_len l k (by omega); have h2l := faultsUp_len (thingE l k) (baseK l k) i.toNat; simp only [List.length_append, List.length_cons, List.length_nil]; omega⟩))
        refine asn rfl (nil (bN (pN (region (mv rfl (co (Ev.add_i (.t rfl) (.c (v := I 1) rfl) (fun _ => by omega)) ?_))))))
        refine asn rfl (nP (nx (X := Int × OV) (i + 1, _) ?_ ?_ (hL := (by rw [hst]; (try rw [← List.append_assoc]); repeat first | exact sR | exact sN | apply sC | apply sS | apply sA))))
        · try dsimp only
          omega
        · try dsimp only
          omega
      · try simp only [Gx.nb] at h2
        have hst := faultsUp_ok (e := thingE l k) (d := baseK l k) hi.1 h2
        refine skip (bN (pN (region (mv rfl (co (Ev.add_i (.t rfl) (.c (v := I 1) rfl) (fun _ => by omega)) ?_)))))
        refine asn rfl (nP (nx (X := Int × OV) (i + 1, _) ?_ ?_ (hL := (by rw [hst]; (try rw [← List.append_assoc]); repeat first | exact sR | exact sN | apply sC | apply sS | apply sA))))
        · try dsimp only
          omega
        · try dsimp only
          omega
    · try simp only [Gx.nb] at h1
      refine exit (pX (pX (bX (pN (seq (seq ?_))))))
      have him : i.toNat = min (szK l k) (limK k) := by omega
      rw [him]
      refine draw' (by kernel_rfl) ?_
      refine tk 0 rfl (Ev.move (.t rfl)) ?_
      refine tk 1 rfl (Ev.indexAddrA0 Tryz.underlying112 ty3 (.t rfl) (.t rfl) (fun _ => by omega)) ?_
      refine tk 2 rfl (Ev.to (v' := I (szK l k : Nat)) (Ev.ldv ty3 (.t rfl) (lArr (n := 5) iE _ (by omega))) (congrArg I (sz_vec l k hkk))) ?_
      refine tk 3 rfl (Ev.move (.t rfl)) ?_
      refine tk 4 rfl (Ev.indexAddrA0 Tryz.underlying112 ty3 (.t rfl) (.t rfl) (fun _ => by omega)) ?_
      refine tk 5 rfl (Ev.to (v' := I (limK k : Nat)) (Ev.ldv ty3 (.t rfl) (lArr (n := 5) iE _ (by omega))) (congrArg I (lim_vec k hkk))) ?_
      refine tk 6 rfl (Ev.gtr_i (.t rfl) (.t rfl)) ?_
      refine ovr (pN ?_)
      first | refine condD rfl (fun h3 => ?_) (fun h3 => ?_) | refine cond rfl (fun h3 => ?_) (fun h3 => ?_)
      · try simp only [Gx.nb] at h3
        refine region (mv rfl (mv rfl (mv rfl (co (Ev.indexAddrA0 Tryz.underlying112 ty3 (.t rfl) (.t rfl) (fun _ => by omega)) ?_))))
        refine co (Ev.to (v' := I (limK k : Nat)) (Ev.ldv ty3 (.t rfl) (lArr (n := 5) iE _ (by omega))) (congrArg I (lim_vec k hkk))) ?_
        refine co (Ev.add_i (.t rfl) (.t rfl) (fun _ => by omega)) ?_
        refine co (Ev.buildS (fs := _) (places := [(0, 1), (1, 1)]) z115 rfl Tryz.underlying115 (by kernel_rfl) (.cons (.c (v := I 4) rfl) (.cons (.t rfl) .nil)) (Fills.cons SFault.l_code rfl (Fills.cons SFault.l_at_ rfl Fills.nil))) ?_
        refine cons (buildSlice (E := eFault) Tryz.underlying65 ty115 z115 (.cons (.t rfl) .nil) rfl rfl (fun v6 => ?_))
        refine cons (app (E := eFault) Tryz.underlying65 ty115 zb115 zs115 (.t rfl) (.t rfl) (fun v7 => ?_) (hby := ⟨by (show _ ≤ 9223372036854775807); have h1l := kindsF_len l k (by omega); have h2l := faultsUp_len (thingE l k) (baseK l k) (min (szK l k) (limK k)); simp only [List.length_append, List.length_cons, List.length_nil]; omega, by have h1l := kindsF_len l k (by omega); have h2l := faultsUp_len (thingE l k) (baseK l k) (min (szK l k) (limK k)); simp only [List.length_append, List.length_cons, List.length_nil]; omega⟩))
        refine asn rfl (nP (region (mv rfl (mv rfl (co (Ev.indexAddrA0 Tryz.underlying112 ty3 (.t rfl) (.t rfl) (fun _ => by omega)) ?_)))))
        refine co (Ev.to (v' := I (szK l k : Nat)) (Ev.ldv ty3 (.t rfl) (lArr (n := 5) iE _ (by omega))) (congrArg I (sz_vec l k hkk))) ?_
        refine co (Ev.add_i (.t rfl) (.t rfl) (fun _ => by omega)) ?_
        refine asn rfl (nil (bN (pN (region (mv rfl (co (Ev.add_i (.t rfl) (.c (v := I 1) rfl) (fun _ => by omega)) ?_))))))
        refine asn rfl (nP (nx (X := Nat × OV) (k + 1, _) ?_ ?_ (hL := (by rw [show kindsF l (k + 1) = kindsF l k ++ listG (thingE l k) (baseK l k) (szK l k) (limK k) from rfl]; unfold listG; (first | rw [if_pos (by omega), ← List.append_assoc] | rw [if_neg (by omega), List.append_nil]); repeat first | exact sR | exact sN | apply sC | apply sS | apply sA))))
        · try dsimp only
          omega
        · try dsimp only
          omega
      · try simp only [Gx.nb] at h3
        refine skip (pN (region (mv rfl (mv rfl (co (Ev.indexAddrA0 Tryz.underlying112 ty3 (.t rfl) (.t rfl) (fun _ => by omega)) ?_)))))
        refine co (Ev.to (v' := I (szK l k : Nat)) (Ev.ldv ty3 (.t rfl) (lArr (n := 5) iE _ (by omega))) (congrArg I (sz_vec l k hkk))) ?_
        refine co (Ev.add_i (.t rfl) (.t rfl) (fun _ => by omega)) ?_
        refine asn rfl (nil (bN (pN (region (mv rfl (co (Ev.add_i (.t rfl) (.c (v := I 1) rfl) (fun _ => by omega)) ?_))))))
        refine asn rfl (nP (nx (X := Nat × OV) (k + 1, _) ?_ ?_ (hL := (by rw [show kindsF l (k + 1) = kindsF l k ++ listG (thingE l k) (baseK l k) (szK l k) (limK k) from rfl]; unfold listG; (first | rw [if_pos (by omega), ← List.append_assoc] | rw [if_neg (by omega), List.append_nil]); repeat first | exact sR | exact sN | apply sC | apply sS | apply sA))))
        · try dsimp only
          omega
        · try dsimp only
          omega
  · try simp only [Gx.nb] at h0
    obtain rfl : k = 5 := by omega
    refine exit (pX (pX (bX (pN (cut (X := OV) (fun x : OV => True) (fun x : OV => [dz, (5, true, x.v)]) (fun x : OV => [OwnS x.v eFault (checkF l c.default) 115]) ?_ (fun x hx => ?_))))))
    · refine seq ?_
      rw [kindsF_all, baseK_all]
      refine region (co (fA 5 (.t rfl)) ?_)
      refine co (Ev.ldx c.default ty3 (.t rfl) SConf.l_default) ?_
      refine co (Ev.neq_i (.t rfl) (.c (v := I 1) rfl)) ?_
      refine mv rfl (cg rfl rfl (fA 5 (.t rfl)) ?_)
      refine cg rfl rfl (Ev.ldx c.default ty3 (.g rfl id) SConf.l_default) ?_
      refine cg rfl rfl (Ev.neq_i (.g rfl id) (.c (v := I 2) rfl)) ?_
      refine co (Ev.pkA (.t rfl) rfl) ?_
      refine mv rfl (cg rfl rfl (fA 5 (.t rfl)) ?_)
      refine cg rfl rfl (Ev.ldx c.default ty3 (.g rfl id) SConf.l_default) ?_
      refine cg rfl rfl (Ev.neq_i (.g rfl id) (.c (v := I 4) rfl)) ?_
      refine co (Ev.pkA (.t rfl) rfl) ?_
      refine nP ?_
      first | refine condD rfl (fun h4 => ?_) (fun h4 => ?_) | refine cond rfl (fun h4 => ?_) (fun h4 => ?_)
      · have hdb : defBad c.default = true := (defBad_eq _).trans h4
        refine region (mv rfl (mv rfl (co (Ev.buildS (fs := _) (places := [(0, 1), (1, 1)]) z115 rfl Tryz.underlying115 (by kernel_rfl) (.cons (.c (v := I 2) rfl) (.cons (.t rfl) .nil)) (Fills.cons SFault.l_code rfl (Fills.cons SFault.l_at_ rfl Fills.nil))) ?_)))
        refine cons (buildSlice (E := eFault) Tryz.underlying65 ty115 z115 (.cons (.t rfl) .nil) rfl rfl (fun v8 => ?_))
        refine cons (app (E := eFault) Tryz.underlying65 ty115 zb115 zs115 (.t rfl) (.t rfl) (fun v9 => ?_) (hby := ⟨by (show _ ≤ 9223372036854775807); have := thingsF_len l; simp only [List.length_cons, List.length_nil]; omega, by have := thingsF_len l; simp only [List.length_cons, List.length_nil]; omega⟩))
        refine asn rfl (nP (mt (X := OV) (_) trivial (hL := (by unfold checkF; (first | rw [if_pos hdb] | rw [if_neg hdb, List.append_nil]); repeat first | exact sR | exact sN | apply sC | apply sS | apply sA))))
      · have hdb : ¬ defBad c.default = true := by rw [show defBad c.default = false from (defBad_eq _).trans h4]; exact Bool.false_ne_true
        refine skip (pN (mt (X := OV) (_) trivial (hL := (by unfold checkF; (first | rw [if_pos hdb] | rw [if_neg hdb, List.append_nil]); repeat first | exact sR | exact sN | apply sC | apply sS | apply sA))))
    obtain ⟨q2, rfl⟩ : ∃ y, y = x := ⟨x, rfl⟩
    show Sat _ _ [dz, (5, true, q2.v)] [OwnS q2.v eFault (checkF l c.default) 115]
    refine sg (mv rfl (asn rfl (nP (ret (done rfl (.tmp rfl .nil) (retOE (by repeat first | exact mH | apply mT | apply mA) ?_))))))
    rfl
end Go.Proofs.YtmdkmclgfgaahaaGreat
namespace Go.Proofs.YtmdkmclgfgaahaaGreat
open Go Go.Gx Go.Proofs.YtmdkmclgfgaahaaGreat.Tri
end Go.Proofs.YtmdkmclgfgaahaaGreat
namespace Go.Proofs.YtmdkmclgfgaahaaGreat
open Go Go.Gx Go.Proofs.YtmdkmclgfgaahaaGreat.Tri
abbrev OC (x : CB) (l : CL) : Res := Seps (OwnS x.o1.v iE l.ps 3) [OwnS x.o2.v eRoute l.rs 102, OwnS x.o3.v eRule l.us 93, OwnS x.o4.v eMeterConf l.ms 81, OwnS x.o5.v eMirrorConf l.xs 83]
end Go.Proofs.YtmdkmclgfgaahaaGreat
namespace Go.Proofs.YtmdkmclgfgaahaaGreat
open Go Go.Gx Go.Proofs.YtmdkmclgfgaahaaGreat.Tri
theorem put_mem {α β : Type} {q : α → α → Bool} (k : α) (v : β) : ∀ (l : List (α × β)) (p : α × β), p ∈ putL q k v l → p.1 = k ∨ ∃ p' ∈ l, p'.1 = p.1
  | [], p, h => by
    unfold putL at h
    exact .inl (by rw [List.mem_singleton.1 h])
  | e :: l, p, h => by
    unfold putL at h
    split at h
    · rcases List.mem_cons.1 h with rfl | h
      · exact .inl rfl
      · exact .inr ⟨p, List.mem_cons_of_mem _ h, rfl⟩
    · rcases List.mem_cons.1 h with rfl | h
      · exact .inr ⟨p, List.mem_cons_self, rfl⟩
      · rcases put_mem k v l p h with h | ⟨p', h1, h2⟩
        · exact .inl h
        · exact .inr ⟨p', List.mem_cons_of_mem _ h1, h2⟩
def Uniq {α β : Type} (q : α → α → Bool) (l : List (α × β)) : Prop := l.Pairwise (fun a b => q a.1 b.1 = false)
def alikeR {α : Type} (q : α → α → Bool) (l k : List α) : Bool := decide (l.length = k.length) && l.all (fun x => decide (l.countP (q x) = k.countP (q x)))
end Go.Proofs.YtmdkmclgfgaahaaGreat
namespace Go.Proofs.YtmdkmclgfgaahaaGreat
open Go Go.Gx Go.Proofs.YtmdkmclgfgaahaaGreat.Tri
def hdrB (a b : CL) (d e : Int) : Bool := decide (d = e ∧ a.ps = b.ps ∧ a.us = b.us ∧ a.rs.length = b.rs.length ∧ a.ms.length = b.ms.length ∧ a.xs.length = b.xs.length)
def cntB {α : Type} (q : α → α → Bool) (l k : List α) : Bool := l.all (fun x => decide (l.countP (q x) = k.countP (q x)))
def exactB (a b : CL) (d e : Int) : Bool := decide (d = e ∧ a.ps = b.ps ∧ a.us = b.us ∧ a.rs = b.rs ∧ a.ms = b.ms ∧ a.xs = b.xs)
end Go.Proofs.YtmdkmclgfgaahaaGreat
namespace Go.Proofs.YtmdkmclgfgaahaaGreat
open Go Go.Gx Go.Proofs.YtmdkmclgfgaahaaGreat.Tri
theorem CL.Small.n {l : CL} (h : l.Small) : l.n ≤ 4611686018427387904 := by
  obtain ⟨h1, h2, h3, h4, h5⟩ := h
  unfold CL.n
  omega
end Go.Proofs.YtmdkmclgfgaahaaGreat
namespace Go.Proofs.YtmdkmclgfgaahaaGreat
open Go Go.Gx Go.Proofs.YtmdkmclgfgaahaaGreat.Tri
theorem en21 : Gx.Enters Tryz.prog 21 := Gx.Enters.mk' (by kernel_rfl)
theorem rmay_ok (c : SConf) (l : CL) (w : World) (hc : ConfAt w c l) (hn : l.Names) (hz : l.n ≤ 4611686018427387904) : Calls Tryz.prog 6 #[eConf.val c] w (RetV w (.bool (mayB l c.default))) := by
  refine en0 7 Tryz.func6 ?_
  refine sg (cons (box (E := eConf) (.t rfl) (fun b1 => ?_)))
  refine co (Ev.assign (.c (v := .bool false) rfl)) ?_
  refine nP (sg (co (Ev.ldx c ty28 (.t rfl) (Lens.id _)) ?_))
  refine cons (callo en21 (.cons (.t rfl) .nil) (fun w I => rcheck_conf c l w (hc.keep0 I.keeps) hn hz) (fun v2 => ?_))
  refine co (Ev.len Tryz.underlying65 (.t rfl) (by first | exact isSl_own (by repeat first | exact mH | apply mT | apply mA) | exact fun w I => IsSl.keep0 (by assumption) I.keeps)) ?_
  refine co (Ev.eql_i (.t rfl) (.c (v := I 0) rfl)) ?_
  refine asn rfl (nP (ret (done rfl (.tmp rfl .nil) (retE ?_))))
  unfold mayB
  refine congrArg Value.bool ?_
  rw [Bool.eq_iff_iff, decide_eq_true_iff, decide_eq_true_iff, ← List.length_eq_zero_iff]
  omega
end Go.Proofs.YtmdkmclgfgaahaaGreat
namespace Go.Proofs.YtmdkmclgfgaahaaGreat
open Go Go.Gx Go.Proofs.YtmdkmclgfgaahaaGreat.Tri
theorem getD_mem2 {α : Type} (l : List α) (i : Int) (z : α) (h : 0 ≤ i ∧ i < l.length) : l.getD i.toNat z ∈ l := getD_in _ _ _ (by omega)
theorem rhas22 (c : SConf) (l : CL) (n : Int) (w : World) (hc : ConfAt w c l) : Calls Tryz.prog 50 #[eConf.val c, I n] w (RetV w (.bool (l.ps.any (fun x => decide (n = x))))) := by
  have hle := hc.ps.le
  refine en0 20 Tryz.func50 ?_
  refine sg (cons (box (E := eConf) (.t rfl) (fun b1 => ?_)))
  refine co (Ev.assign (.c (v := .bool false) rfl)) ?_
  refine nP (seq (sg (co (Ev.assign (.c (v := I 0) rfl)) ?_)))
  refine nP (block (lp (X := Int) (fun x : Int => (0 ≤ x ∧ x ≤ l.ps.length) ∧ ((l.ps.take x.toNat).any (fun x => decide (n = x)) = false)) (fun x : Int => [dz, (1, true, I n), (2, true, .pointer (some ⟨b1, 0, none⟩)), (5, true, I x)]) (fun x : Int => [Var b1 eConf c 28]) (fun x : Int => ((l.ps.length : Int) - x).toNat) (0) ⟨?_, ?_⟩ (fun x hx => ?_)))
  · omega
  · rfl
  obtain ⟨i, rfl⟩ : ∃ y, y = x := ⟨x, rfl⟩
  obtain ⟨hi, hk⟩ : (0 ≤ i ∧ i ≤ l.ps.length) ∧ ((l.ps.take i.toNat).any (fun x => decide (n = x)) = false) := hx
  show Sat _ _ [dz, (1, true, I n), (2, true, .pointer (some ⟨b1, 0, none⟩)), (5, true, I i)] [Var b1 eConf c 28]
  refine seq (sg (mv rfl (co (fA 0 (.t rfl)) ?_)))
  refine co (Ev.ldx c.ports ty22 (.t rfl) SConf.l_ports) ?_
  refine co (Ev.len Tryz.underlying22 (.t rfl) (fun w I => (hc.keep0 I.keeps).ps)) ?_
  refine co (Ev.lss_i (.t rfl) (.t rfl)) ?_
  refine nP ?_
  first | refine condD rfl (fun h0 => ?_) (fun h0 => ?_) | refine cond rfl (fun h0 => ?_) (fun h0 => ?_)
  · try simp only [Gx.nb] at h0
    refine skip (pN (seq (block (sg (co (fA 0 (.t rfl)) ?_)))))
    refine co (Ev.ldx c.ports ty22 (.t rfl) SConf.l_ports) ?_
    refine mv rfl (co (Ev.indexAddr Tryz.underlying22 ty3 (.t rfl) (.t rfl) (fun w I => (hc.keep0 I.keeps).ps) (fun _ => by omega)) ?_)
    refine co (Ev.loadS0 ty3 (.t rfl) (fun w I => (hc.keep0 I.keeps).ps) (fun _ => by omega)) ?_
    refine mv rfl (co (Ev.eql_i (.t rfl) (.t rfl)) ?_)
    refine nP ?_
    first | refine condD rfl (fun h1 => ?_) (fun h1 => ?_) | refine cond rfl (fun h1 => ?_) (fun h1 => ?_)
    · refine sg (co (Ev.assign (.c (v := .bool true) rfl)) ?_)
      refine nP (ret (bR (pR (pR (bR (pR (done rfl (.tmp rfl .nil) (retE ?_))))))))
      have e : l.ps.any (fun x => decide (n = x)) = true := List.any_eq_true.2 ⟨_, getD_mem2 l.ps i iE.zero (by omega), decide_eq_true (Eq.symm (by simpa using h1))⟩
      rw [e]; rfl
    · refine skip (bN (pN (region (mv rfl (co (Ev.add_i (.t rfl) (.c (v := I 1) rfl) (fun _ => by omega)) ?_)))))
      refine asn rfl (nP (nx (X := Int) (i + 1) ⟨?_, ?_⟩ ?_))
      · try dsimp only
        omega
      · try dsimp only
        rw [take_snoc l.ps i hi.1 (by omega) iE.zero, List.any_append, hk]
        have h9 : ¬ l.ps.getD i.toNat iE.zero = n := by simpa using h1
        simpa [eq_comm] using h9
      · try dsimp only
        omega
  · try simp only [Gx.nb] at h0
    refine exit (pX (pX (bX (pN (sg (co (Ev.assign (.c (v := .bool false) rfl)) ?_))))))
    refine nP (ret (done rfl (.tmp rfl .nil) (retE ?_)))
    have e : i.toNat = l.ps.length := by omega
    rw [e, List.take_length] at hk
    rw [hk]; rfl
theorem rnone22 (w : World) : Calls Tryz.prog 49 #[] w (RetV w (eVerdict.val dropV)) := by
  refine en0 2 Tryz.func49 ?_
  refine sg (cons (alloc z60 (fun b1 => ?_)))
  refine nP (sg (co (Ev.buildS (fs := _) (places := [(0, 1), (1, 1), (2, 1), (3, 1), (4, 1)]) z60 rfl Tryz.underlying60 (by kernel_rfl) (.cons (.c (v := I 2) rfl) (.cons (.c (v := I (-1)) rfl) (.cons (.c (v := I (-1)) rfl) (.cons (.c (v := I (-1)) rfl) (.cons (.c (v := I (-1)) rfl) .nil))))) (Fills.cons SVerdict.l_action rfl (Fills.cons SVerdict.l_out rfl (Fills.cons SVerdict.l_rule rfl (Fills.cons SVerdict.l_meter rfl (Fills.cons SVerdict.l_mirror rfl Fills.nil)))))) ?_))
  refine cons (stv ty60 (Lens.id _) (.t rfl) (.t rfl) ?_)
  refine nP (ret (done rfl (.cell rfl (fun w I => run_loadVar_pts ty60 (ptsVar (by repeat first | exact mH | apply mT | apply mA) (Lens.id _) w I)) .nil) (retE ?_)))
  rfl
theorem rmeter22 (c : SConf) (l : CL) (s : ByteArray) (w : World) (hc : ConfAt w c l) (hn : ∀ x ∈ l.ms, nameB x.name = true) : Calls Tryz.prog 52 #[eConf.val c, .string s] w (RetV w (I (nameI (·.name) l.ms s))) := by
  have hle := hc.ms.le
  refine en0 26 Tryz.func52 ?_
  refine sg (cons (box (E := eConf) (.t rfl) (fun b1 => ?_)))
  refine co (Ev.assign (.c (v := I 0) rfl)) ?_
  refine nP (seq (sg (co (Ev.assign (.c (v := I 0) rfl)) ?_)))
  refine nP (block (lp (X := Int) (fun x : Int => (0 ≤ x ∧ x ≤ l.ms.length) ∧ (∀ k : Nat, (k : Int) < x → decide ((l.ms.getD k eMeterConf.zero).name = s) = false)) (fun x : Int => [dz, (1, true, .string s), (2, true, .pointer (some ⟨b1, 0, none⟩)), (5, true, I x)]) (fun x : Int => [Var b1 eConf c 28]) (fun x : Int => ((l.ms.length : Int) - x).toNat) (0) ⟨?_, ?_⟩ (fun x hx => ?_)))
  · omega
  · intro k hk; omega
  obtain ⟨i, rfl⟩ : ∃ y, y = x := ⟨x, rfl⟩
  obtain ⟨hi, hk⟩ : (0 ≤ i ∧ i ≤ l.ms.length) ∧ (∀ k : Nat, (k : Int) < i → decide ((l.ms.getD k eMeterConf.zero).name = s) = false) := hx
  show Sat _ _ [dz, (1, true, .string s), (2, true, .pointer (some ⟨b1, 0, none⟩)), (5, true, I i)] [Var b1 eConf c 28]
  refine seq (sg (mv rfl (co (fA 3 (.t rfl)) ?_)))
  refine co (Ev.ldx c.meters ty25 (.t rfl) SConf.l_meters) ?_
  refine co (Ev.len Tryz.underlying25 (.t rfl) (fun w I => (hc.keep0 I.keeps).ms)) ?_
  refine co (Ev.lss_i (.t rfl) (.t rfl)) ?_
  refine nP ?_
  first | refine condD rfl (fun h0 => ?_) (fun h0 => ?_) | refine cond rfl (fun h0 => ?_) (fun h0 => ?_)
  · try simp only [Gx.nb] at h0
    refine skip (pN (seq (block (sg (co (fA 3 (.t rfl)) ?_)))))
    refine co (Ev.ldx c.meters ty25 (.t rfl) SConf.l_meters) ?_
    refine mv rfl (co (Ev.indexAddr Tryz.underlying25 ty81 (.t rfl) (.t rfl) (fun w I => (hc.keep0 I.keeps).ms) (fun _ => by omega)) ?_)
    refine co (Ev.fieldAddrS (o := 0) (i := i) (.t rfl) (fun w I => (hc.keep0 I.keeps).ms) (fun _ => by omega) (by kernel_rfl)) ?_
    refine co (Ev.loadS ty9 SMeterConf.l_name rfl (.t rfl) (fun w I => (hc.keep0 I.keeps).ms) (fun _ => by omega)) ?_
    refine mv rfl (co (Ev.eql_s (.t rfl) (.t rfl)) ?_)
    refine mv rfl (cg rfl rfl (Ev.move (.t rfl)) ?_)
    refine cg rfl rfl (Ev.neq_s (.g rfl id) (.c (v := (Go.Value.string (ByteArray.mk #[]))) rfl)) ?_
    refine co (Ev.pkA (.t rfl) rfl) ?_
    refine nP ?_
    first | refine condD rfl (fun h1 => ?_) (fun h1 => ?_) | refine cond rfl (fun h1 => ?_) (fun h1 => ?_)
    · have hq : decide ((l.ms.getD i.toNat eMeterConf.zero).name = s) = true := by
        have h9 : (decide ((l.ms.getD i.toNat eMeterConf.zero).name = s) && decide (¬ s = ⟨#[]⟩)) = true := h1
        exact (Bool.and_eq_true_iff.1 h9).1
      refine sg (mv rfl (asn rfl (nP (ret (bR (pR (pR (bR (pR (done rfl (.tmp rfl .nil) (retE ?_)))))))))))
      have e : nameI (fun x => x.name) l.ms s = i := idx_at eMeterConf.zero ⟨hi.1, by omega⟩ (fun k hk9 => hk k hk9) hq
      rw [e]; rfl
    · have hq : decide ((l.ms.getD i.toNat eMeterConf.zero).name = s) = false := by
        have hb := nameB_ne (hn _ (getD_mem2 l.ms i eMeterConf.zero (by omega)))
        have h9 : (decide ((l.ms.getD i.toNat eMeterConf.zero).name = s) && decide (¬ s = ⟨#[]⟩)) = false := h1
        by_cases e : (l.ms.getD i.toNat eMeterConf.zero).name = s
        · rw [e] at hb
          rw [decide_eq_true e, decide_eq_true hb] at h9
          cases h9
        · exact decide_eq_false e
      refine skip (bN (pN (region (mv rfl (co (Ev.add_i (.t rfl) (.c (v := I 1) rfl) (fun _ => by omega)) ?_)))))
      refine asn rfl (nP (nx (X := Int) (i + 1) ⟨?_, ?_⟩ ?_))
      · try dsimp only
        omega
      · try dsimp only
        intro k hk9
        by_cases e : (k : Int) = i
        · have e2 : k = i.toNat := by omega
          rw [e2]; exact hq
        · exact hk k (by omega)
      · try dsimp only
        omega
  · try simp only [Gx.nb] at h0
    refine exit (pX (pX (bX (pN (sg (co (Ev.assign (.c (v := I (-1)) rfl)) ?_))))))
    refine nP (ret (done rfl (.tmp rfl .nil) (retE ?_)))
    have e : nameI (fun x => x.name) l.ms s = -1 := idx_none eMeterConf.zero (fun k hk9 => hk k (by omega))
    rw [e]; rfl
theorem rmirror22 (c : SConf) (l : CL) (s : ByteArray) (w : World) (hc : ConfAt w c l) (hn : ∀ x ∈ l.xs, nameB x.name = true) : Calls Tryz.prog 53 #[eConf.val c, .string s] w (RetV w (I (nameI (·.name) l.xs s))) := by
  have hle := hc.xs.le
  refine en0 26 Tryz.func53 ?_
  refine sg (cons (box (E := eConf) (.t rfl) (fun b1 => ?_)))
  refine co (Ev.assign (.c (v := I 0) rfl)) ?_
  refine nP (seq (sg (co (Ev.assign (.c (v := I 0) rfl)) ?_)))
  refine nP (block (lp (X := Int) (fun x : Int => (0 ≤ x ∧ x ≤ l.xs.length) ∧ (∀ k : Nat, (k : Int) < x → decide ((l.xs.getD k eMirrorConf.zero).name = s) = false)) (fun x : Int => [dz, (1, true, .string s), (2, true, .pointer (some ⟨b1, 0, none⟩)), (5, true, I x)]) (fun x : Int => [Var b1 eConf c 28]) (fun x : Int => ((l.xs.length : Int) - x).toNat) (0) ⟨?_, ?_⟩ (fun x hx => ?_)))
  · omega
  · intro k hk; omega
  obtain ⟨i, rfl⟩ : ∃ y, y = x := ⟨x, rfl⟩
  obtain ⟨hi, hk⟩ : (0 ≤ i ∧ i ≤ l.xs.length) ∧ (∀ k : Nat, (k : Int) < i → decide ((l.xs.getD k eMirrorConf.zero).name = s) = false) := hx
  show Sat _ _ [dz, (1, true, .string s), (2, true, .pointer (some ⟨b1, 0, none⟩)), (5, true, I i)] [Var b1 eConf c 28]
  refine seq (sg (mv rfl (co (fA 4 (.t rfl)) ?_)))
  refine co (Ev.ldx c.mirrors ty26 (.t rfl) SConf.l_mirrors) ?_
  refine co (Ev.len Tryz.underlying26 (.t rfl) (fun w I => (hc.keep0 I.keeps).xs)) ?_
  refine co (Ev.lss_i (.t rfl) (.t rfl)) ?_
  refine nP ?_
  first | refine condD rfl (fun h0 => ?_) (fun h0 => ?_) | refine cond rfl (fun h0 => ?_) (fun h0 => ?_)
  · try simp only [Gx.nb] at h0
    refine skip (pN (seq (block (sg (co (fA 4 (.t rfl)) ?_)))))
    refine co (Ev.ldx c.mirrors ty26 (.t rfl) SConf.l_mirrors) ?_
    refine mv rfl (co (Ev.indexAddr Tryz.underlying26 ty83 (.t rfl) (.t rfl) (fun w I => (hc.keep0 I.keeps).xs) (fun _ => by omega)) ?_)
    refine co (Ev.fieldAddrS (o := 0) (i := i) (.t rfl) (fun w I => (hc.keep0 I.keeps).xs) (fun _ => by omega) (by kernel_rfl)) ?_
    refine co (Ev.loadS ty9 SMirrorConf.l_name rfl (.t rfl) (fun w I => (hc.keep0 I.keeps).xs) (fun _ => by omega)) ?_
    refine mv rfl (co (Ev.eql_s (.t rfl) (.t rfl)) ?_)
    refine mv rfl (cg rfl rfl (Ev.move (.t rfl)) ?_)
    refine cg rfl rfl (Ev.neq_s (.g rfl id) (.c (v := (Go.Value.string (ByteArray.mk #[]))) rfl)) ?_
    refine co (Ev.pkA (.t rfl) rfl) ?_
    refine nP ?_
    first | refine condD rfl (fun h1 => ?_) (fun h1 => ?_) | refine cond rfl (fun h1 => ?_) (fun h1 => ?_)
    · have hq : decide ((l.xs.getD i.toNat eMirrorConf.zero).name = s) = true := by
        have h9 : (decide ((l.xs.getD i.toNat eMirrorConf.zero).name = s) && decide (¬ s = ⟨#[]⟩)) = true := h1
        exact (Bool.and_eq_true_iff.1 h9).1
      refine sg (mv rfl (asn rfl (nP (ret (bR (pR (pR (bR (pR (done rfl (.tmp rfl .nil) (retE ?_)))))))))))
      have e : nameI (fun x => x.name) l.xs s = i := idx_at eMirrorConf.zero ⟨hi.1, by omega⟩ (fun k hk9 => hk k hk9) hq
      rw [e]; rfl
    · have hq : decide ((l.xs.getD i.toNat eMirrorConf.zero).name = s) = false := by
        have hb := nameB_ne (hn _ (getD_mem2 l.xs i eMirrorConf.zero (by omega)))
        have h9 : (decide ((l.xs.getD i.toNat eMirrorConf.zero).name = s) && decide (¬ s = ⟨#[]⟩)) = false := h1
        by_cases e : (l.xs.getD i.toNat eMirrorConf.zero).name = s
        · rw [e] at hb
          rw [decide_eq_true e, decide_eq_true hb] at h9
          cases h9
        · exact decide_eq_false e
      refine skip (bN (pN (region (mv rfl (co (Ev.add_i (.t rfl) (.c (v := I 1) rfl) (fun _ => by omega)) ?_)))))
      refine asn rfl (nP (nx (X := Int) (i + 1) ⟨?_, ?_⟩ ?_))
      · try dsimp only
        omega
      · try dsimp only
        intro k hk9
        by_cases e : (k : Int) = i
        · have e2 : k = i.toNat := by omega
          rw [e2]; exact hq
        · exact hk k (by omega)
      · try dsimp only
        omega
  · try simp only [Gx.nb] at h0
    refine exit (pX (pX (bX (pN (sg (co (Ev.assign (.c (v := I (-1)) rfl)) ?_))))))
    refine nP (ret (done rfl (.tmp rfl .nil) (retE ?_)))
    have e : nameI (fun x => x.name) l.xs s = -1 := idx_none eMirrorConf.zero (fun k hk9 => hk k (by omega))
    rw [e]; rfl
theorem has_zero (a : SAddr) : hasP ⟨⟨a.v6, eAddr.zero.b⟩, 0⟩ a = decide (checkA a = 0) := by
  have hz : checkP ⟨⟨a.v6, eAddr.zero.b⟩, 0⟩ = 0 := by
    cases a.v6 <;> decide +kernel
  rw [Bool.eq_iff_iff, decide_eq_true_iff, hasP_iff]
  exact ⟨fun h => h.2.1, fun h => ⟨hz, h, rfl, fun i h1 h2 => by have : i < 0 := h2; omega⟩⟩
theorem raddr22 (a : SAddr) (w : World) : Calls Tryz.prog 28 #[eAddr.val a] w (RetV w (.bool (decide (checkA a = 0)))) := by
  refine en0 9 Tryz.func28 ?_
  refine sg (cons (box (E := eAddr) (.t rfl) (fun b1 => ?_)))
  refine co (Ev.assign (.c (v := .bool false) rfl)) ?_
  refine nP (sg (co (fA 0 (.t rfl)) ?_))
  refine co (Ev.ldx a.v6 ty4 (.t rfl) SAddr.l_v6) ?_
  refine co (Ev.buildS (fs := _) (places := [(0, 1), (1, 16)]) z38 rfl Tryz.underlying38 (by kernel_rfl) (.cons (.t rfl) .nil) (Fills.cons SAddr.l_v6 rfl Fills.nil)) ?_
  refine co (Ev.buildS (fs := _) (places := [(0, 17), (17, 1)]) z89 rfl Tryz.underlying89 (by kernel_rfl) (.cons (.t rfl) .nil) (Fills.cons SPrefix.l_addr rfl Fills.nil)) ?_
  refine co (Ev.ldx a ty38 (.t rfl) (Lens.id _)) ?_
  refine cons (callv en33 (.cons (.t rfl) (.cons (.t rfl) .nil)) (fun w I => rhas_ok _ _ w) ?_)
  refine asn rfl (nP (ret (done rfl (.tmp rfl .nil) (retE ?_))))
  rw [← has_zero]; rfl
theorem check2 (h : SHeader) (n : Int) : decide (¬ checkH h n = 2) = (((((decide (checkA h.src = 0) && decide (checkA h.dst = 0)) && decide (h.src.v6 = h.dst.v6)) && decide (h.id ≤ (bif h.src.v6 then 1048575 else 65535))) && ((decide (h.proto = 6) || decide (h.proto = 17)) || (decide (h.srcPort = 0) && decide (h.dstPort = 0)))) && (decide (h.proto = 6) || (decide (h.flags = 0) && decide (h.seq = 0)))) := by
  have hm : midN h.proto = 0 ↔ ¬ h.proto = 6 ∧ ¬ h.proto = 17 := by
    unfold midN
    by_cases a : h.proto = 6
    · simp [a]
    · by_cases b : h.proto = 17 <;> simp [a, b]
  have hid : (bif h.src.v6 then (1048575 : UInt32) else 65535) < h.id ↔ ¬ h.id ≤ (bif h.src.v6 then 1048575 else 65535) := by
    rw [UInt32.not_le]
  unfold checkH
  simp only [hm, hid]
  by_cases a1 : checkA h.src = 0
  · by_cases a2 : checkA h.dst = 0
    · by_cases a3 : h.src.v6 = h.dst.v6
      · by_cases a4 : h.id ≤ (bif h.src.v6 then 1048575 else 65535)
        · rw [if_neg (fun hh => by rcases hh with g | g | g | g; exact g a1; exact g a2; exact g a3; exact g a4)]
          by_cases a5 : h.proto = 6
          · rw [if_neg (by simp [a5])]
            rw [decide_eq_true a1, decide_eq_true a2, decide_eq_true a3, decide_eq_true a4, decide_eq_true a5, decide_eq_true]
            · rfl
            · split <;> decide
          · by_cases a7 : h.flags = 0 ∧ h.seq = 0
            · by_cases a6 : h.proto = 17
              · rw [if_neg (by simp [a6, a7.1, a7.2])]
                rw [decide_eq_true a1, decide_eq_true a2, decide_eq_true a3, decide_eq_true a4, decide_eq_true a6, decide_eq_true a7.1, decide_eq_true a7.2, decide_eq_true]
                · simp
                · split <;> decide
              · by_cases a8 : h.srcPort = 0 ∧ h.dstPort = 0
                · rw [if_neg (by simp [a7.1, a7.2, a8.1, a8.2])]
                  rw [decide_eq_true a1, decide_eq_true a2, decide_eq_true a3, decide_eq_true a4, decide_eq_true a7.1, decide_eq_true a7.2, decide_eq_true a8.1, decide_eq_true a8.2, decide_eq_true]
                  · simp
                  · split <;> decide
                · rw [if_pos (.inl ⟨⟨a5, a6⟩, by by_cases b : h.srcPort = 0 <;> simp_all⟩)]
                  by_cases b : h.srcPort = 0 <;> simp_all
            · rw [if_pos (.inr ⟨a5, by by_cases b : h.flags = 0 <;> simp_all⟩)]
              by_cases b : h.flags = 0 <;> simp_all
        · rw [if_pos (.inr (.inr (.inr a4)))]
          simp only [decide_eq_false a4, Bool.and_false, Bool.false_and]
          rfl
      · rw [if_pos (.inr (.inr (.inl a3)))]
        simp only [decide_eq_false a3, Bool.and_false, Bool.false_and]
        rfl
    · rw [if_pos (.inr (.inl a2))]
      simp only [decide_eq_false a2, Bool.and_false, Bool.false_and]
      rfl
  · rw [if_pos (.inl a1)]
    simp only [decide_eq_false a1, Bool.and_false, Bool.false_and]
    rfl
theorem en28 : Gx.Enters Tryz.prog 28 := Gx.Enters.mk' (by kernel_rfl)
set_option maxRecDepth 8000 in
theorem rmay22 (h : SHeader) (n : Int) (w : World) : Calls Tryz.prog 8 #[eHeader.val h] w (RetV w (.bool (decide (¬ checkH h n = 2)))) := by
  refine en0 67 Tryz.func8 ?_
  refine sg (cons (box (E := eHeader) (.t rfl) (fun b1 => ?_)))
  refine co (Ev.assign (.c (v := .bool false) rfl)) ?_
  refine nP (sg (co (Ev.assign (.c (v := U32 65535) rfl)) ?_))
  refine nP (cut (X := UInt32) (fun x : UInt32 => (x = (bif h.src.v6 then 1048575 else 65535))) (fun x : UInt32 => [dz, (1, true, .pointer (some ⟨b1, 0, none⟩)), (3, true, U32 x)]) (fun x : UInt32 => [Var b1 eHeader h 43]) ?_ (fun x hx => ?_))
  · refine sg (co (fA 0 (.t rfl)) ?_)
    refine co (fA 0 (.t rfl)) ?_
    refine co (Ev.ldx h.src.v6 ty4 (.t rfl) (Lens.comp SHeader.l_src SAddr.l_v6)) ?_
    refine nP ?_
    first | refine condD rfl (fun h0 => ?_) (fun h0 => ?_) | refine cond rfl (fun h0 => ?_) (fun h0 => ?_)
    · try simp only [Gx.nb] at h0
      refine region (co (Ev.assign (.c (v := U32 1048575) rfl)) ?_)
      refine nP (mt (X := UInt32) (_) ?_)
      · try dsimp only
        simp [h0]
    · try simp only [Gx.nb] at h0
      refine skip (pN (mt (X := UInt32) (_) ?_))
      · try dsimp only
        simp [h0]
  obtain ⟨lim, rfl⟩ : ∃ y, y = x := ⟨x, rfl⟩
  have hlim : lim = (bif h.src.v6 then 1048575 else 65535) := hx
  clear hx
  show Sat _ _ [dz, (1, true, .pointer (some ⟨b1, 0, none⟩)), (3, true, U32 lim)] [Var b1 eHeader h 43]
  refine sg (co (fA 34 (.t rfl)) ?_)
  refine co (Ev.ldx h.proto ty5 (.t rfl) SHeader.l_proto) ?_
  refine co (Ev.eql_u8 (.t rfl) (.c (v := U8 6) rfl)) ?_
  refine mv rfl (cg rfl rfl (fA 34 (.t rfl)) ?_)
  refine cg rfl rfl (Ev.ldx h.proto ty5 (.g rfl id) SHeader.l_proto) ?_
  refine cg rfl rfl (Ev.eql_u8 (.g rfl id) (.c (v := U8 17) rfl)) ?_
  refine co (Ev.pkO (.t rfl) rfl) ?_
  refine asn rfl (nP (sg (co (fA 0 (.t rfl)) ?_)))
  refine co (Ev.ldx h.src ty38 (.t rfl) SHeader.l_src) ?_
  refine cons (callv en28 (.cons (.t rfl) .nil) (fun w I => raddr22 _ w) ?_)
  refine mv rfl (cg rfl rfl (fA 17 (.t rfl)) ?_)
  refine cg rfl rfl (Ev.ldx h.dst ty38 (.g rfl id) SHeader.l_dst) ?_
  refine cons (callg rfl rfl en28 (.cons (.g rfl id) .nil) (fun hg w I => raddr22 _ w) ?_)
  refine co (Ev.pkA (.t rfl) rfl) ?_
  refine mv rfl (cg rfl rfl (fA 0 (.t rfl)) ?_)
  refine cg rfl rfl (fA 0 (.g rfl id)) ?_
  refine cg rfl rfl (Ev.ldx h.src.v6 ty4 (.g rfl id) (Lens.comp SHeader.l_src SAddr.l_v6)) ?_
  refine cg rfl rfl (fA 17 (.t rfl)) ?_
  refine cg rfl rfl (fA 0 (.g rfl id)) ?_
  refine cg rfl rfl (Ev.ldx h.dst.v6 ty4 (.g rfl id) (Lens.comp SHeader.l_dst SAddr.l_v6)) ?_
  refine cg rfl rfl (Ev.eql_b Tryz.underlying4 (.g rfl id) (.g rfl id)) ?_
  refine co (Ev.pkA (.t rfl) rfl) ?_
  refine mv rfl (cg rfl rfl (fA 39 (.t rfl)) ?_)
  refine cg rfl rfl (Ev.ldx h.id ty40 (.g rfl id) SHeader.l_id) ?_
  refine cg rfl rfl (Ev.move (.t rfl)) ?_
  refine cg rfl rfl (Ev.leq_u32 (.g rfl id) (.g rfl id)) ?_
  refine co (Ev.pkA (.t rfl) rfl) ?_
  refine mv rfl (cg rfl rfl (Ev.move (.t rfl)) ?_)
  refine cg rfl rfl (Ev.move (.g rfl id)) ?_
  refine cg rfl rfl (fA 35 (.t rfl)) ?_
  refine cg rfl rfl (Ev.ldx h.srcPort ty39 (.g rfl id) SHeader.l_srcPort) ?_
  refine cg rfl rfl (Ev.eql_u16 (.g rfl id) (.c (v := U16 0) rfl)) ?_
  refine cg rfl rfl (Ev.move (.g rfl id)) ?_
  refine cg rfl rfl (fA 36 (.t rfl)) ?_
  refine cg rfl rfl (Ev.ldx h.dstPort ty39 (.g rfl id) SHeader.l_dstPort) ?_
  refine cg rfl rfl (Ev.eql_u16 (.g rfl id) (.c (v := U16 0) rfl)) ?_
  refine cg rfl rfl (Ev.pkA (.g rfl id) rfl) ?_
  refine cg rfl rfl (Ev.pkO (.g rfl id) rfl) ?_
  refine co (Ev.pkA (.t rfl) rfl) ?_
  refine mv rfl (cg rfl rfl (fA 34 (.t rfl)) ?_)
  refine cg rfl rfl (Ev.ldx h.proto ty5 (.g rfl id) SHeader.l_proto) ?_
  refine cg rfl rfl (Ev.eql_u8 (.g rfl id) (.c (v := U8 6) rfl)) ?_
  refine cg rfl rfl (Ev.move (.g rfl id)) ?_
  refine cg rfl rfl (fA 40 (.t rfl)) ?_
  refine cg rfl rfl (Ev.ldx h.flags ty5 (.g rfl id) SHeader.l_flags) ?_
  refine cg rfl rfl (Ev.eql_u8 (.g rfl id) (.c (v := U8 0) rfl)) ?_
  refine cg rfl rfl (Ev.move (.g rfl id)) ?_
  refine cg rfl rfl (fA 41 (.t rfl)) ?_
  refine cg rfl rfl (Ev.ldx h.seq ty40 (.g rfl id) SHeader.l_seq) ?_
  refine cg rfl rfl (Ev.eql_u32 (.g rfl id) (.c (v := U32 0) rfl)) ?_
  refine cg rfl rfl (Ev.pkA (.g rfl id) rfl) ?_
  refine cg rfl rfl (Ev.pickO (.g rfl id) (.c (v := .bool true) rfl) (fun {_} h => by cases h; rfl) ⟨_, rfl⟩ (by intro h1 h; exact Bool.and_eq_true_iff.2 ⟨h1, by rw [h]; rfl⟩)) ?_
  refine co (Ev.pkA (.t rfl) rfl) ?_
  refine asn rfl (nP (ret (done rfl (.tmp rfl .nil) (retE ?_))))
  rw [check2, ← hlim]; rfl
theorem rroute22 (c : SConf) (l : CL) (a : SAddr) (w : World) (hc : ConfAt w c l) : Calls Tryz.prog 16 #[eConf.val c, eAddr.val a] w (RetV w (.tuple #[I (routeV l.rs a).1, .bool (routeV l.rs a).2])) := by
  have hle := hc.rs.le
  refine en0 53 Tryz.func16 ?_
  refine sg (cons (box (E := eConf) (.t rfl) (fun b1 => ?_)))
  refine cons (box (E := eAddr) (.t rfl) (fun b2 => ?_))
  refine co (Ev.assign (.c (v := I 0) rfl)) ?_
  refine co (Ev.assign (.c (v := .bool false) rfl)) ?_
  refine nP (sg (co (Ev.assign (.c (v := I (-1)) rfl)) ?_))
  refine nP (seq (sg (co (Ev.assign (.c (v := I 0) rfl)) ?_)))
  refine nP (block (lp (X := Int × Int) (fun x : Int × Int => (0 ≤ x.1 ∧ x.1 ≤ l.rs.length) ∧ (x.2 = longN l.rs a x.1.toNat)) (fun x : Int × Int => [dz, (2, true, .pointer (some ⟨b1, 0, none⟩)), (3, true, .pointer (some ⟨b2, 0, none⟩)), (6, true, I x.2), (7, true, I x.1)]) (fun x : Int × Int => [Var b2 eAddr a 38, Var b1 eConf c 28]) (fun x : Int × Int => ((l.rs.length : Int) - x.1).toNat) (0, -1) ⟨?_, ?_⟩ (fun x hx => ?_)))
  · omega
  · rfl
  obtain ⟨i, lo⟩ := x
  obtain ⟨hi, hlo⟩ : (0 ≤ i ∧ i ≤ l.rs.length) ∧ (lo = longN l.rs a i.toNat) := hx
  show Sat _ _ [dz, (2, true, .pointer (some ⟨b1, 0, none⟩)), (3, true, .pointer (some ⟨b2, 0, none⟩)), (6, true, I lo), (7, true, I i)] [Var b2 eAddr a 38, Var b1 eConf c 28]
  have hlr := longN_rng l.rs a i.toNat
  rw [← hlo] at hlr
  refine seq (sg (mv rfl (co (fA 1 (.t rfl)) ?_)))
  refine co (Ev.ldx c.routes ty23 (.t rfl) SConf.l_routes) ?_
  refine co (Ev.len Tryz.underlying23 (.t rfl) (fun w I => (hc.keep0 I.keeps).rs)) ?_
  refine co (Ev.lss_i (.t rfl) (.t rfl)) ?_
  refine nP ?_
  first | refine condD rfl (fun h0 => ?_) (fun h0 => ?_) | refine cond rfl (fun h0 => ?_) (fun h0 => ?_)
  · try simp only [Gx.nb] at h0
    refine skip (pN (seq (block (seq (draw' (by kernel_rfl) ?_)))))
    refine tk 0 rfl (fA 1 (.t rfl)) ?_
    refine tk 1 rfl (Ev.ldx c.routes ty23 (.t rfl) SConf.l_routes) ?_
    refine tk 2 rfl (Ev.move (.t rfl)) ?_
    refine tk 3 rfl (Ev.indexAddr Tryz.underlying23 ty102 (.t rfl) (.t rfl) (fun w I => (hc.keep0 I.keeps).rs) (fun _ => by omega)) ?_
    refine tk 4 rfl (Ev.fieldAddrS (o := 0) (i := i) (.t rfl) (fun w I => (hc.keep0 I.keeps).rs) (fun _ => by omega) (by kernel_rfl)) ?_
    refine tk 5 rfl (Ev.loadS ty89 SRoute.l_to_ rfl (.t rfl) (fun w I => (hc.keep0 I.keeps).rs) (fun _ => by omega)) ?_
    refine tk 6 rfl (Ev.ldx a ty38 (.t rfl) (Lens.id _)) ?_
    refine al1 7 rfl ((callv en33 (.cons (.t rfl) (.cons (.t rfl) .nil)) (fun w I => rhas_ok _ _ w) ?_))
    refine hdn (tk 8 rfl (Ev.move (.t rfl)) ?_)
    refine tkg 9 rfl rfl rfl (Ev.move (.t rfl)) ?_
    refine tkg 10 rfl rfl rfl (Ev.lss_i (.g rfl id) (.c (v := I 0) rfl)) ?_
    refine tkg 11 rfl rfl rfl (Ev.move (.g rfl id)) ?_
    refine tkg 12 rfl rfl rfl (fA 1 (.t rfl)) ?_
    refine tkg 13 rfl rfl rfl (Ev.ldx c.routes ty23 (.g rfl id) SConf.l_routes) ?_
    refine tkg 14 rfl rfl rfl (Ev.move (.t rfl)) ?_
    refine tkg 15 rfl rfl rfl (Ev.indexAddr Tryz.underlying23 ty102 (.g rfl id) (.g rfl id) (fun w I => (hc.keep0 I.keeps).rs) (fun _ => by first | omega | (rename_i hg; simp at hg; omega))) ?_
    refine tkg 16 rfl rfl rfl (Ev.fieldAddrS (o := 0) (i := i) (.g rfl id) (fun w I => (hc.keep0 I.keeps).rs) (fun _ => by first | omega | (rename_i hg; simp at hg; omega)) (by kernel_rfl)) ?_
    refine tkg 17 rfl rfl rfl (Ev.fieldAddrS (o := 17) (i := i) (.g rfl id) (fun w I => (hc.keep0 I.keeps).rs) (fun _ => by first | omega | (rename_i hg; simp at hg; omega)) (by kernel_rfl)) ?_
    refine tkg 18 rfl rfl rfl (Ev.loadS ty3 (Lens.comp SRoute.l_to_ SPrefix.l_bits) rfl (.g rfl id) (fun w I => (hc.keep0 I.keeps).rs) (fun _ => by first | omega | (rename_i hg; simp at hg; omega))) ?_
    refine tkg 19 rfl rfl rfl (fA 1 (.t rfl)) ?_
    refine tkg 20 rfl rfl rfl (Ev.ldx c.routes ty23 (.g rfl id) SConf.l_routes) ?_
    refine tkg 21 rfl rfl rfl (Ev.move (.t rfl)) ?_
    refine tkg 22 rfl rfl rfl (Ev.indexAddr Tryz.underlying23 ty102 (.g rfl id) (.g rfl id) (fun w I => (hc.keep0 I.keeps).rs) (fun _ => by first | omega | (rename_i hg; simp at hg; omega))) ?_
    refine tkg 23 rfl rfl rfl (Ev.fieldAddrS (o := 0) (i := lo) (.g rfl id) (fun w I => (hc.keep0 I.keeps).rs) (fun _ => by first | omega | (rename_i hg; simp at hg; omega)) (by kernel_rfl)) ?_
    refine tkg 24 rfl rfl rfl (Ev.fieldAddrS (o := 17) (i := lo) (.g rfl id) (fun w I => (hc.keep0 I.keeps).rs) (fun _ => by first | omega | (rename_i hg; simp at hg; omega)) (by kernel_rfl)) ?_
    refine tkg 25 rfl rfl rfl (Ev.loadS ty3 (Lens.comp SRoute.l_to_ SPrefix.l_bits) rfl (.g rfl id) (fun w I => (hc.keep0 I.keeps).rs) (fun _ => by first | omega | (rename_i hg; simp at hg; omega))) ?_
    refine tkg 26 rfl rfl rfl (Ev.gtr_i (.g rfl id) (.g rfl id)) ?_
    refine tkg 27 rfl rfl rfl (Ev.pkO (.g rfl id) rfl) ?_
    refine tk 28 rfl (Ev.pkA (.t rfl) rfl) ?_
    refine ovr (pN ?_)
    first | refine condD rfl (fun h1 => ?_) (fun h1 => ?_) | refine cond rfl (fun h1 => ?_) (fun h1 => ?_)
    · have hst : (hasP (l.rs.getD i.toNat eRoute.zero).to_ a && (decide (lo < 0) || decide ((l.rs.getD lo.toNat eRoute.zero).to_.bits < (l.rs.getD i.toNat eRoute.zero).to_.bits))) = true := h1
      refine region (mv rfl (asn rfl (nil (bN (pN (region (mv rfl (co (Ev.add_i (.t rfl) (.c (v := I 1) rfl) (fun _ => by omega)) ?_))))))))
      refine asn rfl (nP (nx (X := Int × Int) (i + 1, _) ⟨?_, ?_⟩ ?_))
      · try dsimp only
        omega
      · try dsimp only
        rw [longN_stepI _ _ hi.1, ← hlo]
        first | rw [if_pos hst] | rw [if_neg hst]
      · try dsimp only
        omega
    · have hst : ¬ (hasP (l.rs.getD i.toNat eRoute.zero).to_ a && (decide (lo < 0) || decide ((l.rs.getD lo.toNat eRoute.zero).to_.bits < (l.rs.getD i.toNat eRoute.zero).to_.bits))) = true := fun e9 => by
        have h9 : (hasP (l.rs.getD i.toNat eRoute.zero).to_ a && (decide (lo < 0) || decide ((l.rs.getD lo.toNat eRoute.zero).to_.bits < (l.rs.getD i.toNat eRoute.zero).to_.bits))) = false := h1
        rw [h9] at e9
        cases e9
      refine skip (bN (pN (region (mv rfl (co (Ev.add_i (.t rfl) (.c (v := I 1) rfl) (fun _ => by omega)) ?_)))))
      refine asn rfl (nP (nx (X := Int × Int) (i + 1, _) ⟨?_, ?_⟩ ?_))
      · try dsimp only
        omega
      · try dsimp only
        rw [longN_stepI _ _ hi.1, ← hlo]
        first | rw [if_pos hst] | rw [if_neg hst]
      · try dsimp only
        omega
  · try simp only [Gx.nb] at h0
    refine exit (pX (pX (bX (pN (seq (seq ?_))))))
    have hlk : longK l.rs a = lo := by
      have e9 : i.toNat = l.rs.length := by omega
      rw [e9] at hlo
      exact hlo.symm
    refine region (mv rfl (co (Ev.lss_i (.t rfl) (.c (v := I 0) rfl)) ?_))
    refine nP ?_
    first | refine condD rfl (fun h2 => ?_) (fun h2 => ?_) | refine cond rfl (fun h2 => ?_) (fun h2 => ?_)
    · try simp only [Gx.nb] at h2
      refine sg (co (Ev.assign (.c (v := I 0) rfl)) ?_)
      refine co (Ev.assign (.c (v := .bool false) rfl)) ?_
      refine nP (ret (pR (done rfl (.tmp rfl (.tmp rfl .nil)) (retE ?_))))
      unfold routeV
      rw [hlk, if_pos h2]; rfl
    · try simp only [Gx.nb] at h2
      refine skip (pN (sg (co (fA 1 (.t rfl)) ?_)))
      refine co (Ev.ldx c.routes ty23 (.t rfl) SConf.l_routes) ?_
      refine mv rfl (co (Ev.indexAddr Tryz.underlying23 ty102 (.t rfl) (.t rfl) (fun w I => (hc.keep0 I.keeps).rs) (fun _ => by omega)) ?_)
      refine co (Ev.fieldAddrS (o := 18) (i := lo) (.t rfl) (fun w I => (hc.keep0 I.keeps).rs) (fun _ => by omega) (by kernel_rfl)) ?_
      refine co (Ev.loadS ty3 SRoute.l_out rfl (.t rfl) (fun w I => (hc.keep0 I.keeps).rs) (fun _ => by omega)) ?_
      refine asn rfl (co (Ev.assign (.c (v := .bool true) rfl)) ?_)
      refine nP (ret (done rfl (.tmp rfl (.tmp rfl .nil)) (retE ?_)))
      unfold routeV
      rw [hlk, if_neg (by omega)]; rfl
end Go.Proofs.YtmdkmclgfgaahaaGreat
namespace Go.Proofs.YtmdkmclgfgaahaaGreat
open Go Go.Gx Go.Proofs.YtmdkmclgfgaahaaGreat.Tri
def refV (l : CL) (f : Int) : SVerdict := ⟨2, -1, f, if 0 ≤ f then nameI (·.name) l.ms (l.us.getD f.toNat eRule.zero).meter else -1, if 0 ≤ f then nameI (·.name) l.xs (l.us.getD f.toNat eRule.zero).mirror else -1⟩
def act22 (rs : List SRoute) (a o : Int) (x : SAddr) : Int × Int := if a = 3 then (3, o) else if a = 4 then (4, -1) else if a = 1 then (if (routeV rs x).2 = true then (3, (routeV rs x).1) else (4, -1)) else (2, -1)
theorem act_22 {rs : List SRoute} {a o o2 : Int} {x : SAddr} (ha : 1 ≤ a ∧ a ≤ 4) (ho : a = 3 → o2 = o) : act22 rs a o2 x = actO rs a o x := by
  unfold act22 actO
  by_cases h3 : a = 3
  · rw [if_pos h3, if_pos h3, ho h3]
  · rw [if_neg h3, if_neg h3]
    by_cases h4 : a = 4
    · rw [if_pos h4, if_neg (by omega), h4]
    · rw [if_neg h4]
      by_cases h1 : a = 1
      · rw [if_pos h1, if_pos h1]
      · rw [if_neg h1, if_neg h1, show a = 2 by omega]
structure Act22 (l : CL) (d f ac ou : Int) : Prop where
  yes : 0 ≤ f → ac = (l.us.getD f.toNat eRule.zero).action ∧ ou = (l.us.getD f.toNat eRule.zero).out
  no : f < 0 → ac = d ∧ ou = -1
theorem dec22 {l : CL} {d n : Int} {h : SHeader} {ac ou : Int} (hm : mayB l d = true) (hp : l.ps.any (fun x => decide (n = x)) = true) (ha : Act22 l d (metI l n h) ac ou) : decV l d n h = { refV l (metI l n h) with action := (act22 l.rs ac ou h.dst).1, out := (act22 l.rs ac ou h.dst).2 } := by
  obtain ⟨h1, h2, h3⟩ := decV_parts (d := d) (h := h) hp
  have hd := (may_good hm).d
  unfold defBad at hd
  simp only [Bool.not_eq_false', Bool.or_eq_true, decide_eq_true_iff] at hd
  have e : act22 l.rs ac ou h.dst = actO l.rs (actI l d (ruleI l n h)).1 (actI l d (ruleI l n h)).2 h.dst := by
    have hr := metI_rng l n h
    unfold actI
    by_cases hf : metI l n h < 0
    · rw [ruleI_lt hf, if_neg (by omega)]
      obtain ⟨a1, a2⟩ := ha.no hf
      rw [a1, a2]
      exact act_22 (by omega) (fun e3 => absurd e3 (by omega))
    · have e9 := ruleI_ge hf
      have e8 : ruleI l n h = (metI l n h).toNat := by omega
      obtain ⟨a1, a2⟩ := ha.yes (by omega)
      have hrg := (fold_range hm (getD_mem2 l.us (metI l n h) eRule.zero (by omega))).2.2.1
      rw [e8, if_pos (by omega), ← a1, ← a2]
      rw [← a1] at hrg
      exact act_22 (by omega) (fun _ => rfl)
  rw [e, ← h3]
  obtain ⟨_, h4, h5⟩ := h1
  show decV l d n h = ⟨(decV l d n h).action, (decV l d n h).out, metI l n h, if 0 ≤ metI l n h then nameI (·.name) l.ms (l.us.getD (metI l n h).toNat eRule.zero).meter else -1, if 0 ≤ metI l n h then nameI (·.name) l.xs (l.us.getD (metI l n h).toNat eRule.zero).mirror else -1⟩
  rw [← h2] at h4 h5 ⊢
  rw [← h4, ← h5]
theorem en49 : Gx.Enters Tryz.prog 49 := Gx.Enters.mk' (by kernel_rfl)
theorem en50 : Gx.Enters Tryz.prog 50 := Gx.Enters.mk' (by kernel_rfl)
theorem en51 : Gx.Enters Tryz.prog 51 := Gx.Enters.mk' (by kernel_rfl)
theorem en52 : Gx.Enters Tryz.prog 52 := Gx.Enters.mk' (by kernel_rfl)
theorem en53 : Gx.Enters Tryz.prog 53 := Gx.Enters.mk' (by kernel_rfl)
theorem en16 : Gx.Enters Tryz.prog 16 := Gx.Enters.mk' (by kernel_rfl)
set_option maxRecDepth 8000 in
theorem rdec22 (c : SConf) (l : CL) (n : Int) (h : SHeader) (w : World) (hc : ConfAt w c l) (hm : mayB l c.default = true) : Calls Tryz.prog 29 #[eConf.val c, I n, eHeader.val h] w (RetV w (eVerdict.val (decV l c.default n h))) := by
  have hle := hc.us.le
  refine en0 79 Tryz.func29 ?_
  refine sg (cons (box (E := eConf) (.t rfl) (fun b1 => ?_)))
  refine cons (box (E := eHeader) (.t rfl) (fun b2 => ?_))
  refine cons (alloc z60 (fun b3 => ?_))
  refine nP (sg (cons (callv en49 .nil (fun w I => rnone22 w) ?_)))
  refine cons (alloc z60 (fun b4 => ?_))
  refine cons (stv ty60 (Lens.id _) (.t rfl) (.t rfl) ?_)
  refine nP (seq (sg (co (Ev.ldx c ty28 (.t rfl) (Lens.id _)) ?_)))
  refine mv rfl (cons (callv en50 (.cons (.t rfl) (.cons (.t rfl) .nil)) (fun w I => rhas22 _ l _ w (hc.keep0 I.keeps)) ?_))
  refine co (Ev.not (.t rfl)) ?_
  refine nP ?_
  first | refine condD rfl (fun h0 => ?_) (fun h0 => ?_) | refine cond rfl (fun h0 => ?_) (fun h0 => ?_)
  · have hps : l.ps.any (fun x => decide (n = x)) = false := by simpa using h0
    refine sg (co (Ev.ldv ty60 (.t rfl) (Lens.id _)) ?_)
    refine cons (stv ty60 (Lens.id _) (.t rfl) (.t rfl) ?_)
    refine nP (ret (pR (done rfl (.cell rfl (fun w I => run_loadVar_pts ty60 (ptsVar (by repeat first | exact mH | apply mT | apply mA) (Lens.id _) w I)) .nil) (retE ?_))))
    rw [decV_no hps]; rfl
  · have hps : l.ps.any (fun x => decide (n = x)) = true := by simpa using h0
    refine skip (pN (sg (co (fA 5 (.t rfl)) ?_)))
    refine co (Ev.ldx c.default ty3 (.t rfl) SConf.l_default) ?_
    refine asn rfl (nP (sg (co (Ev.assign (.c (v := I (-1)) rfl)) ?_)))
    refine nP (cut (X := SVerdict × Int × Int) (fun x : SVerdict × Int × Int => (x.1 = refV l (metI l n h)) ∧ (Act22 l c.default (metI l n h) x.2.1 x.2.2)) (fun x : SVerdict × Int × Int => [dz, (1, true, I n), (3, true, .pointer (some ⟨b1, 0, none⟩)), (5, true, .pointer (some ⟨b2, 0, none⟩)), (6, true, .pointer (some ⟨b3, 0, none⟩)), (7, true, .pointer (some ⟨b4, 0, none⟩)), (8, true, I x.2.1), (9, true, I x.2.2)]) (fun x : SVerdict × Int × Int => [Var b4 eVerdict x.1 60, Var b3 eVerdict eVerdict.zero 60, Var b2 eHeader h 43, Var b1 eConf c 28]) ?_ (fun x hx => ?_))
    · refine sg (co (Ev.assign (.c (v := I 0) rfl)) ?_)
      refine nP (block (lp (X := Int) (fun x : Int => (0 ≤ x ∧ x ≤ l.us.length) ∧ (metI l n h = firstF (metQ n h) ((mtL l).drop x.toNat) x)) (fun x : Int => [dz, (1, true, I n), (3, true, .pointer (some ⟨b1, 0, none⟩)), (5, true, .pointer (some ⟨b2, 0, none⟩)), (6, true, .pointer (some ⟨b3, 0, none⟩)), (7, true, .pointer (some ⟨b4, 0, none⟩)), (8, true, I c.default), (9, true, I (-1)), (10, true, I x)]) (fun x : Int => [Var b4 eVerdict dropV 60, Var b3 eVerdict eVerdict.zero 60, Var b2 eHeader h 43, Var b1 eConf c 28]) (fun x : Int => ((l.us.length : Int) - x).toNat) (0) ⟨?_, ?_⟩ (fun x hx => ?_)))
      · omega
      · rfl
      obtain ⟨i, rfl⟩ : ∃ y, y = x := ⟨x, rfl⟩
      obtain ⟨hi, hk⟩ : (0 ≤ i ∧ i ≤ l.us.length) ∧ (metI l n h = firstF (metQ n h) ((mtL l).drop i.toNat) i) := hx
      show Sat _ _ [dz, (1, true, I n), (3, true, .pointer (some ⟨b1, 0, none⟩)), (5, true, .pointer (some ⟨b2, 0, none⟩)), (6, true, .pointer (some ⟨b3, 0, none⟩)), (7, true, .pointer (some ⟨b4, 0, none⟩)), (8, true, I c.default), (9, true, I (-1)), (10, true, I i)] [Var b4 eVerdict dropV 60, Var b3 eVerdict eVerdict.zero 60, Var b2 eHeader h 43, Var b1 eConf c 28]
      refine seq (sg (mv rfl (co (fA 2 (.t rfl)) ?_)))
      refine co (Ev.ldx c.rules ty24 (.t rfl) SConf.l_rules) ?_
      refine co (Ev.len Tryz.underlying24 (.t rfl) (fun w I => (hc.keep0 I.keeps).us)) ?_
      refine co (Ev.lss_i (.t rfl) (.t rfl)) ?_
      refine nP ?_
      first | refine condD rfl (fun h1 => ?_) (fun h1 => ?_) | refine cond rfl (fun h1 => ?_) (fun h1 => ?_)
      · try simp only [Gx.nb] at h1
        refine skip (pN (seq (block (sg (co (fA 2 (.t rfl)) ?_)))))
        refine co (Ev.ldx c.rules ty24 (.t rfl) SConf.l_rules) ?_
        refine mv rfl (co (Ev.indexAddr Tryz.underlying24 ty93 (.t rfl) (.t rfl) (fun w I => (hc.keep0 I.keeps).us) (fun _ => by omega)) ?_)
        refine co (Ev.loadS0 ty93 (.t rfl) (fun w I => (hc.keep0 I.keeps).us) (fun _ => by omega)) ?_
        refine cons (alloc z93 (fun b5 => ?_))
        refine cons (stv ty93 (Lens.id _) (.t rfl) (.t rfl) ?_)
        refine nP (sg (co (fA 1 (.t rfl)) ?_))
        refine co (Ev.ldv ty91 (.t rfl) SRule.l_match_) ?_
        refine mv rfl (co (Ev.ldx h ty43 (.t rfl) (Lens.id _)) ?_)
        refine cons (callv en51 (.cons (.t rfl) (.cons (.t rfl) (.cons (.t rfl) .nil))) (fun w I => rmeets_ok _ _ _ w) ?_)
        refine nP ?_
        first | refine condD rfl (fun h2 => ?_) (fun h2 => ?_) | refine cond rfl (fun h2 => ?_) (fun h2 => ?_)
        · have hmq : metB (l.us.getD i.toNat eRule.zero).match_ n h = true := by
            have h9 : (okM (l.us.getD i.toNat eRule.zero).match_ && metB (l.us.getD i.toNat eRule.zero).match_ n h) = true := h2
            rw [may_okM hm (by omega)] at h9
            simpa using h9
          refine sg (mv rfl (co (fA 2 (.t rfl)) ?_))
          refine cons (stv ty3 SVerdict.l_rule (.t rfl) (.t rfl) ?_)
          refine nP (sg (co (Ev.ldx c ty28 (.t rfl) (Lens.id _)) ?_))
          refine co (fA 47 (.t rfl)) ?_
          refine co (Ev.ldv ty9 (.t rfl) SRule.l_meter) ?_
          refine cons (callv en52 (.cons (.t rfl) (.cons (.t rfl) .nil)) (fun w I => rmeter22 c l _ w (hc.keep0 I.keeps) (may_ms hm)) ?_)
          refine co (fA 3 (.t rfl)) ?_
          refine cons (stv ty3 SVerdict.l_meter (.t rfl) (.t rfl) ?_)
          refine nP (sg (co (Ev.ldx c ty28 (.t rfl) (Lens.id _)) ?_))
          refine co (fA 48 (.t rfl)) ?_
          refine co (Ev.ldv ty9 (.t rfl) SRule.l_mirror) ?_
          refine cons (callv en53 (.cons (.t rfl) (.cons (.t rfl) .nil)) (fun w I => rmirror22 c l _ w (hc.keep0 I.keeps) (may_xs hm)) ?_)
          refine co (fA 4 (.t rfl)) ?_
          refine cons (stv ty3 SVerdict.l_mirror (.t rfl) (.t rfl) ?_)
          refine nP (sg (co (fA 45 (.t rfl)) ?_))
          refine co (Ev.ldv ty3 (.t rfl) SRule.l_action) ?_
          refine asn rfl (nP (sg (co (fA 46 (.t rfl)) ?_)))
          refine co (Ev.ldv ty3 (.t rfl) SRule.l_out) ?_
          refine asn rfl (nP (exit (bO rfl (pX (pX (bX (pN (mt (X := SVerdict × Int × Int) (_, _, _) ⟨?_, ?_⟩))))))))
          · try dsimp only
            first
              | (have e9 : metI l n h = i := by rw [hk, down_step l n h (by omega), if_pos hmq]
                 rw [e9]; unfold refV; rw [if_pos hi.1, if_pos hi.1]; rfl)
              | (have e9 : metI l n h = -1 := by rw [hk, List.drop_eq_nil_of_le (by rw [mtL_len]; omega)]; rfl
                 rw [e9]; rfl)
          · try dsimp only
            first
              | (have e9 : metI l n h = i := by rw [hk, down_step l n h (by omega), if_pos hmq]
                 rw [e9]; exact ⟨fun _ => ⟨rfl, rfl⟩, fun g => absurd g (by omega)⟩)
              | (have e9 : metI l n h = -1 := by rw [hk, List.drop_eq_nil_of_le (by rw [mtL_len]; omega)]; rfl
                 rw [e9]; exact ⟨fun g => absurd g (by omega), fun _ => ⟨rfl, rfl⟩⟩)
        · have hmq : ¬ metB (l.us.getD i.toNat eRule.zero).match_ n h = true := by
            have h9 : (okM (l.us.getD i.toNat eRule.zero).match_ && metB (l.us.getD i.toNat eRule.zero).match_ n h) = false := h2
            rw [may_okM hm (by omega)] at h9
            simpa using h9
          refine skip (bN (pN (region (mv rfl (co (Ev.add_i (.t rfl) (.c (v := I 1) rfl) (fun _ => by omega)) ?_)))))
          refine asn rfl (nP (nx (X := Int) (i + 1) ⟨?_, ?_⟩ ?_))
          · try dsimp only
            omega
          · try dsimp only
            rw [hk, down_step l n h (by omega), if_neg hmq]
          · try dsimp only
            omega
      · try simp only [Gx.nb] at h1
        refine exit (pX (pX (bX (pN (mt (X := SVerdict × Int × Int) (_, _, _) ⟨?_, ?_⟩)))))
        · try dsimp only
          first
            | (have e9 : metI l n h = i := by rw [hk, down_step l n h (by omega), if_pos hmq]
               rw [e9]; unfold refV; rw [if_pos hi.1, if_pos hi.1]; rfl)
            | (have e9 : metI l n h = -1 := by rw [hk, List.drop_eq_nil_of_le (by rw [mtL_len]; omega)]; rfl
               rw [e9]; rfl)
        · try dsimp only
          first
            | (have e9 : metI l n h = i := by rw [hk, down_step l n h (by omega), if_pos hmq]
               rw [e9]; exact ⟨fun _ => ⟨rfl, rfl⟩, fun g => absurd g (by omega)⟩)
            | (have e9 : metI l n h = -1 := by rw [hk, List.drop_eq_nil_of_le (by rw [mtL_len]; omega)]; rfl
               rw [e9]; exact ⟨fun g => absurd g (by omega), fun _ => ⟨rfl, rfl⟩⟩)
    obtain ⟨V0, ac, ou⟩ := x
    obtain ⟨hv0, hact⟩ : (V0 = refV l (metI l n h)) ∧ (Act22 l c.default (metI l n h) ac ou) := hx
    show Sat _ _ [dz, (1, true, I n), (3, true, .pointer (some ⟨b1, 0, none⟩)), (5, true, .pointer (some ⟨b2, 0, none⟩)), (6, true, .pointer (some ⟨b3, 0, none⟩)), (7, true, .pointer (some ⟨b4, 0, none⟩)), (8, true, I ac), (9, true, I ou)] [Var b4 eVerdict V0 60, Var b3 eVerdict eVerdict.zero 60, Var b2 eHeader h 43, Var b1 eConf c 28]
    refine seq (sg (mv rfl (nP (block (sg (co (Ev.eql_i (.t rfl) (.c (v := I 3) rfl)) ?_))))))
    refine asn rfl (nP ?_)
    first | refine condD rfl (fun h3 => ?_) (fun h3 => ?_) | refine cond rfl (fun h3 => ?_) (fun h3 => ?_)
    · try simp only [Gx.nb] at h3
      refine sg (co (fA 0 (.t rfl)) ?_)
      refine cons (stv ty3 SVerdict.l_action (.t rfl) (.c (v := I 3) rfl) ?_)
      refine nP (region (mv rfl (co (fA 1 (.t rfl)) ?_)))
      refine cons (stv ty3 SVerdict.l_out (.t rfl) (.t rfl) ?_)
      refine nil (bN (pN (sg (co (Ev.ldv ty60 (.t rfl) (Lens.id _)) ?_))))
      refine cons (stv ty60 (Lens.id _) (.t rfl) (.t rfl) ?_)
      refine nP (ret (done rfl (.cell rfl (fun w I => run_loadVar_pts ty60 (ptsVar (by repeat first | exact mH | apply mT | apply mA) (Lens.id _) w I)) .nil) (retE ?_)))
      rw [dec22 hm hps hact]
      subst hv0
      unfold act22
      first | (rw [if_pos h3]; rfl) | (rw [if_neg h3, if_pos h4]; rfl) | (rw [if_neg h3, if_neg h4, if_pos h5, if_pos h6]; rfl) | (rw [if_neg h3, if_neg h4, if_pos h5, if_neg (by rw [h6]; exact Bool.false_ne_true)]; rfl) | (rw [if_neg h3, if_neg h4, if_neg h5]; rfl)
    · try simp only [Gx.nb] at h3
      refine sg (co (Ev.eql_i (.t rfl) (.c (v := I 4) rfl)) ?_)
      refine asn rfl (nP ?_)
      first | refine condD rfl (fun h4 => ?_) (fun h4 => ?_) | refine cond rfl (fun h4 => ?_) (fun h4 => ?_)
      · try simp only [Gx.nb] at h4
        refine region (co (fA 0 (.t rfl)) ?_)
        refine cons (stv ty3 SVerdict.l_action (.t rfl) (.c (v := I 4) rfl) ?_)
        refine nil (bN (pN (sg (co (Ev.ldv ty60 (.t rfl) (Lens.id _)) ?_))))
        refine cons (stv ty60 (Lens.id _) (.t rfl) (.t rfl) ?_)
        refine nP (ret (done rfl (.cell rfl (fun w I => run_loadVar_pts ty60 (ptsVar (by repeat first | exact mH | apply mT | apply mA) (Lens.id _) w I)) .nil) (retE ?_)))
        rw [dec22 hm hps hact]
        subst hv0
        unfold act22
        first | (rw [if_pos h3]; rfl) | (rw [if_neg h3, if_pos h4]; rfl) | (rw [if_neg h3, if_neg h4, if_pos h5, if_pos h6]; rfl) | (rw [if_neg h3, if_neg h4, if_pos h5, if_neg (by rw [h6]; exact Bool.false_ne_true)]; rfl) | (rw [if_neg h3, if_neg h4, if_neg h5]; rfl)
      · try simp only [Gx.nb] at h4
        refine sg (co (Ev.eql_i (.t rfl) (.c (v := I 1) rfl)) ?_)
        refine asn rfl (nP ?_)
        first | refine condD rfl (fun h5 => ?_) (fun h5 => ?_) | refine cond rfl (fun h5 => ?_) (fun h5 => ?_)
        · try simp only [Gx.nb] at h5
          refine sg (co (fA 0 (.t rfl)) ?_)
          refine cons (stv ty3 SVerdict.l_action (.t rfl) (.c (v := I 4) rfl) ?_)
          refine nP (sg (co (Ev.ldx c ty28 (.t rfl) (Lens.id _)) ?_))
          refine co (fA 17 (.t rfl)) ?_
          refine co (Ev.ldx h.dst ty38 (.t rfl) SHeader.l_dst) ?_
          refine cons (callv en16 (.cons (.t rfl) (.cons (.t rfl) .nil)) (fun w I => rroute22 c l h.dst w (hc.keep0 I.keeps)) ?_)
          refine mv rfl (co (Ev.extract (.t rfl) rfl) (co (Ev.extract (.t rfl) rfl) (asn rfl (asn rfl (nP (sg (mv rfl (nP ?_))))))))
          first | refine condD rfl (fun h6 => ?_) (fun h6 => ?_) | refine cond rfl (fun h6 => ?_) (fun h6 => ?_)
          · refine sg (co (fA 0 (.t rfl)) ?_)
            refine cons (stv ty3 SVerdict.l_action (.t rfl) (.c (v := I 3) rfl) ?_)
            refine nP (region (mv rfl (co (fA 1 (.t rfl)) ?_)))
            refine cons (stv ty3 SVerdict.l_out (.t rfl) (.t rfl) ?_)
            refine nil (bN (pN (sg (co (Ev.ldv ty60 (.t rfl) (Lens.id _)) ?_))))
            refine cons (stv ty60 (Lens.id _) (.t rfl) (.t rfl) ?_)
            refine nP (ret (done rfl (.cell rfl (fun w I => run_loadVar_pts ty60 (ptsVar (by repeat first | exact mH | apply mT | apply mA) (Lens.id _) w I)) .nil) (retE ?_)))
            rw [dec22 hm hps hact]
            subst hv0
            unfold act22
            first | (rw [if_pos h3]; rfl) | (rw [if_neg h3, if_pos h4]; rfl) | (rw [if_neg h3, if_neg h4, if_pos h5, if_pos h6]; rfl) | (rw [if_neg h3, if_neg h4, if_pos h5, if_neg (by rw [h6]; exact Bool.false_ne_true)]; rfl) | (rw [if_neg h3, if_neg h4, if_neg h5]; rfl)
          · refine skip (bN (pN (sg (co (Ev.ldv ty60 (.t rfl) (Lens.id _)) ?_))))
            refine cons (stv ty60 (Lens.id _) (.t rfl) (.t rfl) ?_)
            refine nP (ret (done rfl (.cell rfl (fun w I => run_loadVar_pts ty60 (ptsVar (by repeat first | exact mH | apply mT | apply mA) (Lens.id _) w I)) .nil) (retE ?_)))
            rw [dec22 hm hps hact]
            subst hv0
            unfold act22
            first | (rw [if_pos h3]; rfl) | (rw [if_neg h3, if_pos h4]; rfl) | (rw [if_neg h3, if_neg h4, if_pos h5, if_pos h6]; rfl) | (rw [if_neg h3, if_neg h4, if_pos h5, if_neg (by rw [h6]; exact Bool.false_ne_true)]; rfl) | (rw [if_neg h3, if_neg h4, if_neg h5]; rfl)
        · try simp only [Gx.nb] at h5
          refine skip (bN (pN (sg (co (Ev.ldv ty60 (.t rfl) (Lens.id _)) ?_))))
          refine cons (stv ty60 (Lens.id _) (.t rfl) (.t rfl) ?_)
          refine nP (ret (done rfl (.cell rfl (fun w I => run_loadVar_pts ty60 (ptsVar (by repeat first | exact mH | apply mT | apply mA) (Lens.id _) w I)) .nil) (retE ?_)))
          rw [dec22 hm hps hact]
          subst hv0
          unfold act22
          first | (rw [if_pos h3]; rfl) | (rw [if_neg h3, if_pos h4]; rfl) | (rw [if_neg h3, if_neg h4, if_pos h5, if_pos h6]; rfl) | (rw [if_neg h3, if_neg h4, if_pos h5, if_neg (by rw [h6]; exact Bool.false_ne_true)]; rfl) | (rw [if_neg h3, if_neg h4, if_neg h5]; rfl)
theorem rdec_to (c : SConf) (l : CL) (n : Int) (h : SHeader) (V : SVerdict) (w : World) (hc : ConfAt w c l) (hm : mayB l c.default = true) (hv : decV l c.default n h = V) : Calls Tryz.prog 29 #[eConf.val c, I n, eHeader.val h] w (RetV w (eVerdict.val V)) := by
  subst hv
  exact rdec22 c l n h w hc hm
theorem dec_rng {l : CL} {d n : Int} {h : SHeader} (hm : mayB l d = true) : -1 ≤ (decV l d n h).meter ∧ (decV l d n h).meter < l.ms.length ∧ -1 ≤ (decV l d n h).mirror ∧ (decV l d n h).mirror < l.xs.length := by
  cases hp : l.ps.any (fun x => decide (n = x)) with
  | false =>
    rw [decV_no hp]
    refine ⟨by decide, ?_, by decide, ?_⟩
    · show (-1 : Int) < _; omega
    · show (-1 : Int) < _; omega
  | true =>
    have h1 := (decV_parts (d := d) (h := h) hp).1
    have h2 := h1.mm hm
    have h3 := h1.xx hm
    omega
end Go.Proofs.YtmdkmclgfgaahaaGreat
namespace Go.Proofs.YtmdkmclgfgaahaaGreat
open Go Go.Gx Go.Proofs.YtmdkmclgfgaahaaGreat.Tri
theorem en29 : Gx.Enters Tryz.prog 29 := Gx.Enters.mk' (by kernel_rfl)
set_option maxRecDepth 8000 in
theorem rlike22 (a b : SConf) (l k : CL) (n : Int) (h : SHeader) (w : World) (ha : ConfAt w a l) (hb : ConfAt w b k) (hma : mayB l a.default = true) (hmb : mayB k b.default = true) : Calls Tryz.prog 9 #[eConf.val a, eConf.val b, I n, eHeader.val h] w (RetV w (.bool (likeB (decV l a.default n h) (decV k b.default n h) l k))) := by
  have hrv := dec_rng (n := n) (h := h) hma
  have hrw := dec_rng (n := n) (h := h) hmb
  obtain ⟨V, hV⟩ : ∃ z, decV l a.default n h = z := ⟨_, rfl⟩
  obtain ⟨W, hW⟩ : ∃ z, decV k b.default n h = z := ⟨_, rfl⟩
  rw [hV] at hrv
  rw [hW] at hrw
  rw [hV, hW]
  refine en0 87 Tryz.func9 ?_
  refine sg (cons (box (E := eConf) (.t rfl) (fun b1 => ?_)))
  refine cons (box (E := eConf) (.t rfl) (fun b2 => ?_))
  refine cons (box (E := eHeader) (.t rfl) (fun b3 => ?_))
  refine co (Ev.assign (.c (v := .bool false) rfl)) ?_
  refine nP (cut (X := Nat × Nat) (fun x : Nat × Nat => True) (fun x : Nat × Nat => [dz, (2, true, I n), (4, true, .pointer (some ⟨b1, 0, none⟩)), (5, true, .pointer (some ⟨b2, 0, none⟩)), (7, true, .pointer (some ⟨b3, 0, none⟩)), (9, true, .pointer (some ⟨x.1, 0, none⟩)), (10, true, .pointer (some ⟨x.2, 0, none⟩))]) (fun x : Nat × Nat => [Var x.2 eVerdict W 60, Var x.1 eVerdict V 60, Var b3 eHeader h 43, Var b2 eConf b 28, Var b1 eConf a 28]) ?_ (fun x hx => ?_))
  · refine draw' (by kernel_rfl) ?_
    refine tk 0 rfl (Ev.ldx a ty28 (.t rfl) (Lens.id _)) ?_
    refine tk 1 rfl (Ev.move (.t rfl)) ?_
    refine tk 2 rfl (Ev.ldx h ty43 (.t rfl) (Lens.id _)) ?_
    refine tk 4 rfl (Ev.ldx b ty28 (.t rfl) (Lens.id _)) ?_
    refine tk 5 rfl (Ev.move (.t rfl)) ?_
    refine tk 6 rfl (Ev.ldx h ty43 (.t rfl) (Lens.id _)) ?_
    refine all [3, 8, 9] (by kernel_rfl) (by decide) (.cons rfl ?_ (.cons rfl ?_ (.cons rfl ?_ .nil)))
    · refine (callv en29 (.cons (.t rfl) (.cons (.t rfl) (.cons (.t rfl) .nil))) (fun w I => rdec_to a l n h V w (ha.keep0 I.keeps) hma hV) ?_)
      refine hdn (all [7, 8, 9] (by kernel_rfl) (by decide) (.cons rfl ?_ (.cons rfl ?_ (.cons rfl ?_ .nil))))
      · refine (callv en29 (.cons (.t rfl) (.cons (.t rfl) (.cons (.t rfl) .nil))) (fun w I => rdec_to b k n h W w (hb.keep0 I.keeps) hmb hW) ?_)
        refine hdn (all [8, 9] (by kernel_rfl) (by decide) (.cons rfl ?_ (.cons rfl ?_ .nil)))
        · refine (alloc z60 (fun b4 => ?_))
          refine hdn (al1 9 rfl ((alloc z60 (fun b5 => ?_))))
          refine hdn (al1 10 rfl ((stv ty60 (Lens.id _) (.t rfl) (.t rfl) ?_)))
          refine hdn (al1 11 rfl ((stv ty60 (Lens.id _) (.t rfl) (.t rfl) ?_)))
          refine hdn (ovr (pN (mtP (X := Nat × Nat) (_, _) trivial)))
        · refine (alloc z60 (fun b6 => ?_))
          refine hdn (al1 8 rfl ((alloc z60 (fun b7 => ?_))))
          refine hdn (al1 10 rfl ((stv ty60 (Lens.id _) (.t rfl) (.t rfl) ?_)))
          refine hdn (al1 11 rfl ((stv ty60 (Lens.id _) (.t rfl) (.t rfl) ?_)))
          refine hdn (ovr (pN (mtP (X := Nat × Nat) (_, _) trivial)))
      · refine (alloc z60 (fun b8 => ?_))
        refine hdn (all [7, 9] (by kernel_rfl) (by decide) (.cons rfl ?_ (.cons rfl ?_ .nil)))
        · refine (callv en29 (.cons (.t rfl) (.cons (.t rfl) (.cons (.t rfl) .nil))) (fun w I => rdec_to b k n h W w (hb.keep0 I.keeps) hmb hW) ?_)
          refine hdn (al1 9 rfl ((alloc z60 (fun b9 => ?_))))
          refine hdn (al1 10 rfl ((stv ty60 (Lens.id _) (.t rfl) (.t rfl) ?_)))
          refine hdn (al1 11 rfl ((stv ty60 (Lens.id _) (.t rfl) (.t rfl) ?_)))
          refine hdn (ovr (pN (mtP (X := Nat × Nat) (_, _) trivial)))
        · refine (alloc z60 (fun b10 => ?_))
          refine hdn (al1 7 rfl ((callv en29 (.cons (.t rfl) (.cons (.t rfl) (.cons (.t rfl) .nil))) (fun w I => rdec_to b k n h W w (hb.keep0 I.keeps) hmb hW) ?_)))
          refine hdn (al1 10 rfl ((stv ty60 (Lens.id _) (.t rfl) (.t rfl) ?_)))
          refine hdn (al1 11 rfl ((stv ty60 (Lens.id _) (.t rfl) (.t rfl) ?_)))
          refine hdn (ovr (pN (mtP (X := Nat × Nat) (_, _) trivial)))
      · refine (alloc z60 (fun b11 => ?_))
        refine hdn (all [7, 8] (by kernel_rfl) (by decide) (.cons rfl ?_ (.cons rfl ?_ .nil)))
        · refine (callv en29 (.cons (.t rfl) (.cons (.t rfl) (.cons (.t rfl) .nil))) (fun w I => rdec_to b k n h W w (hb.keep0 I.keeps) hmb hW) ?_)
          refine hdn (al1 8 rfl ((alloc z60 (fun b12 => ?_))))
          refine hdn (al1 10 rfl ((stv ty60 (Lens.id _) (.t rfl) (.t rfl) ?_)))
          refine hdn (al1 11 rfl ((stv ty60 (Lens.id _) (.t rfl) (.t rfl) ?_)))
          refine hdn (ovr (pN (mtP (X := Nat × Nat) (_, _) trivial)))
        · refine (alloc z60 (fun b13 => ?_))
          refine hdn (al1 7 rfl ((callv en29 (.cons (.t rfl) (.cons (.t rfl) (.cons (.t rfl) .nil))) (fun w I => rdec_to b k n h W w (hb.keep0 I.keeps) hmb hW) ?_)))
          refine hdn (al1 10 rfl ((stv ty60 (Lens.id _) (.t rfl) (.t rfl) ?_)))
          refine hdn (al1 11 rfl ((stv ty60 (Lens.id _) (.t rfl) (.t rfl) ?_)))
          refine hdn (ovr (pN (mtP (X := Nat × Nat) (_, _) trivial)))
    · refine (alloc z60 (fun b14 => ?_))
      refine hdn (all [3, 9] (by kernel_rfl) (by decide) (.cons rfl ?_ (.cons rfl ?_ .nil)))
      · refine (callv en29 (.cons (.t rfl) (.cons (.t rfl) (.cons (.t rfl) .nil))) (fun w I => rdec_to a l n h V w (ha.keep0 I.keeps) hma hV) ?_)
        refine hdn (all [7, 9] (by kernel_rfl) (by decide) (.cons rfl ?_ (.cons rfl ?_ .nil)))
        · refine (callv en29 (.cons (.t rfl) (.cons (.t rfl) (.cons (.t rfl) .nil))) (fun w I => rdec_to b k n h W w (hb.keep0 I.keeps) hmb hW) ?_)
          refine hdn (al1 9 rfl ((alloc z60 (fun b15 => ?_))))
          refine hdn (al1 10 rfl ((stv ty60 (Lens.id _) (.t rfl) (.t rfl) ?_)))
          refine hdn (al1 11 rfl ((stv ty60 (Lens.id _) (.t rfl) (.t rfl) ?_)))
          refine hdn (ovr (pN (mtP (X := Nat × Nat) (_, _) trivial)))
        · refine (alloc z60 (fun b16 => ?_))
          refine hdn (al1 7 rfl ((callv en29 (.cons (.t rfl) (.cons (.t rfl) (.cons (.t rfl) .nil))) (fun w I => rdec_to b k n h W w (hb.keep0 I.keeps) hmb hW) ?_)))
          refine hdn (al1 10 rfl ((stv ty60 (Lens.id _) (.t rfl) (.t rfl) ?_)))
          refine hdn (al1 11 rfl ((stv ty60 (Lens.id _) (.t rfl) (.t rfl) ?_)))
          refine hdn (ovr (pN (mtP (X := Nat × Nat) (_, _) trivial)))
      · refine (alloc z60 (fun b17 => ?_))
        refine hdn (al1 3 rfl ((callv en29 (.cons (.t rfl) (.cons (.t rfl) (.cons (.t rfl) .nil))) (fun w I => rdec_to a l n h V w (ha.keep0 I.keeps) hma hV) ?_)))
        refine hdn (al1 7 rfl ((callv en29 (.cons (.t rfl) (.cons (.t rfl) (.cons (.t rfl) .nil))) (fun w I => rdec_to b k n h W w (hb.keep0 I.keeps) hmb hW) ?_)))
        refine hdn (al1 10 rfl ((stv ty60 (Lens.id _) (.t rfl) (.t rfl) ?_)))
        refine hdn (al1 11 rfl ((stv ty60 (Lens.id _) (.t rfl) (.t rfl) ?_)))
        refine hdn (ovr (pN (mtP (X := Nat × Nat) (_, _) trivial)))
    · refine (alloc z60 (fun b18 => ?_))
      refine hdn (all [3, 8] (by kernel_rfl) (by decide) (.cons rfl ?_ (.cons rfl ?_ .nil)))
      · refine (callv en29 (.cons (.t rfl) (.cons (.t rfl) (.cons (.t rfl) .nil))) (fun w I => rdec_to a l n h V w (ha.keep0 I.keeps) hma hV) ?_)
        refine hdn (all [7, 8] (by kernel_rfl) (by decide) (.cons rfl ?_ (.cons rfl ?_ .nil)))
        · refine (callv en29 (.cons (.t rfl) (.cons (.t rfl) (.cons (.t rfl) .nil))) (fun w I => rdec_to b k n h W w (hb.keep0 I.keeps) hmb hW) ?_)
          refine hdn (al1 8 rfl ((alloc z60 (fun b19 => ?_))))
          refine hdn (al1 10 rfl ((stv ty60 (Lens.id _) (.t rfl) (.t rfl) ?_)))
          refine hdn (al1 11 rfl ((stv ty60 (Lens.id _) (.t rfl) (.t rfl) ?_)))
          refine hdn (ovr (pN (mtP (X := Nat × Nat) (_, _) trivial)))
        · refine (alloc z60 (fun b20 => ?_))
          refine hdn (al1 7 rfl ((callv en29 (.cons (.t rfl) (.cons (.t rfl) (.cons (.t rfl) .nil))) (fun w I => rdec_to b k n h W w (hb.keep0 I.keeps) hmb hW) ?_)))
          refine hdn (al1 10 rfl ((stv ty60 (Lens.id _) (.t rfl) (.t rfl) ?_)))
          refine hdn (al1 11 rfl ((stv ty60 (Lens.id _) (.t rfl) (.t rfl) ?_)))
          refine hdn (ovr (pN (mtP (X := Nat × Nat) (_, _) trivial)))
      · refine (alloc z60 (fun b21 => ?_))
        refine hdn (al1 3 rfl ((callv en29 (.cons (.t rfl) (.cons (.t rfl) (.cons (.t rfl) .nil))) (fun w I => rdec_to a l n h V w (ha.keep0 I.keeps) hma hV) ?_)))
        refine hdn (al1 7 rfl ((callv en29 (.cons (.t rfl) (.cons (.t rfl) (.cons (.t rfl) .nil))) (fun w I => rdec_to b k n h W w (hb.keep0 I.keeps) hmb hW) ?_)))
        refine hdn (al1 10 rfl ((stv ty60 (Lens.id _) (.t rfl) (.t rfl) ?_)))
        refine hdn (al1 11 rfl ((stv ty60 (Lens.id _) (.t rfl) (.t rfl) ?_)))
        refine hdn (ovr (pN (mtP (X := Nat × Nat) (_, _) trivial)))
  obtain ⟨x9, x10⟩ := x
  show Sat _ _ [dz, (2, true, I n), (4, true, .pointer (some ⟨b1, 0, none⟩)), (5, true, .pointer (some ⟨b2, 0, none⟩)), (7, true, .pointer (some ⟨b3, 0, none⟩)), (9, true, .pointer (some ⟨x9, 0, none⟩)), (10, true, .pointer (some ⟨x10, 0, none⟩))] [Var x10 eVerdict W 60, Var x9 eVerdict V 60, Var b3 eHeader h 43, Var b2 eConf b 28, Var b1 eConf a 28]
  refine seq (sg (co (fA 0 (.t rfl)) ?_))
  refine co (Ev.ldv ty3 (.t rfl) SVerdict.l_action) ?_
  refine co (fA 0 (.t rfl)) ?_
  refine co (Ev.ldv ty3 (.t rfl) SVerdict.l_action) ?_
  refine co (Ev.neq_i (.t rfl) (.t rfl)) ?_
  refine mv rfl (cg rfl rfl (fA 1 (.t rfl)) ?_)
  refine cg rfl rfl (Ev.ldv ty3 (.g rfl id) SVerdict.l_out) ?_
  refine cg rfl rfl (fA 1 (.t rfl)) ?_
  refine cg rfl rfl (Ev.ldv ty3 (.g rfl id) SVerdict.l_out) ?_
  refine cg rfl rfl (Ev.neq_i (.g rfl id) (.g rfl id)) ?_
  refine co (Ev.pkO (.t rfl) rfl) ?_
  refine mv rfl (cg rfl rfl (fA 3 (.t rfl)) ?_)
  refine cg rfl rfl (Ev.ldv ty3 (.g rfl id) SVerdict.l_meter) ?_
  refine cg rfl rfl (Ev.lss_i (.g rfl id) (.c (v := I 0) rfl)) ?_
  refine cg rfl rfl (fA 3 (.t rfl)) ?_
  refine cg rfl rfl (Ev.ldv ty3 (.g rfl id) SVerdict.l_meter) ?_
  refine cg rfl rfl (Ev.lss_i (.g rfl id) (.c (v := I 0) rfl)) ?_
  refine cg rfl rfl (Ev.neq_b Tryz.underlying4 (.g rfl id) (.g rfl id)) ?_
  refine co (Ev.pkO (.t rfl) rfl) ?_
  refine mv rfl (cg rfl rfl (fA 4 (.t rfl)) ?_)
  refine cg rfl rfl (Ev.ldv ty3 (.g rfl id) SVerdict.l_mirror) ?_
  refine cg rfl rfl (Ev.lss_i (.g rfl id) (.c (v := I 0) rfl)) ?_
  refine cg rfl rfl (fA 4 (.t rfl)) ?_
  refine cg rfl rfl (Ev.ldv ty3 (.g rfl id) SVerdict.l_mirror) ?_
  refine cg rfl rfl (Ev.lss_i (.g rfl id) (.c (v := I 0) rfl)) ?_
  refine cg rfl rfl (Ev.neq_b Tryz.underlying4 (.g rfl id) (.g rfl id)) ?_
  refine co (Ev.pkO (.t rfl) rfl) ?_
  refine nP ?_
  first | refine condD rfl (fun h0 => ?_) (fun h0 => ?_) | refine cond rfl (fun h0 => ?_) (fun h0 => ?_)
  · have h08 : (((decide (¬ V.action = W.action) || decide (¬ V.out = W.out)) || decide (¬ decide (V.meter < 0) = decide (W.meter < 0))) || decide (¬ decide (V.mirror < 0) = decide (W.mirror < 0))) = true := h0
    clear h0
    refine sg (co (Ev.assign (.c (v := .bool false) rfl)) ?_)
    refine nP (ret (pR (done rfl (.tmp rfl .nil) (retE ?_))))
    have g : likeB V W l k = false := by
      unfold likeB
      rw [Bool.eq_false_iff]
      intro h9
      simp only [Bool.and_eq_true, decide_eq_true_iff] at h9
      obtain ⟨g1, g2, g3, g4, _⟩ := h9
      have h07 : (((decide (¬ V.action = W.action) || decide (¬ V.out = W.out)) || decide (¬ decide (V.meter < 0) = decide (W.meter < 0))) || decide (¬ decide (V.mirror < 0) = decide (W.mirror < 0))) = false := by rw [decide_eq_false (fun z => z g1), decide_eq_false (fun z => z g2), decide_eq_false (fun z => z g3), decide_eq_false (fun z => z g4)]; rfl
      rw [h07] at h08
      cases h08
    rw [g]; rfl
  · have h08 : (((decide (¬ V.action = W.action) || decide (¬ V.out = W.out)) || decide (¬ decide (V.meter < 0) = decide (W.meter < 0))) || decide (¬ decide (V.mirror < 0) = decide (W.mirror < 0))) = false := h0
    simp only [Bool.or_eq_false_iff, decide_eq_false_iff_not, Decidable.not_not] at h08
    obtain ⟨⟨⟨g1, g2⟩, g3⟩, g4⟩ := h08
    have hs1 : V.meter < 0 ↔ W.meter < 0 := by
      have := g3
      rwa [Bool.eq_iff_iff, decide_eq_true_iff, decide_eq_true_iff] at this
    have hs2 : V.mirror < 0 ↔ W.mirror < 0 := by
      have := g4
      rwa [Bool.eq_iff_iff, decide_eq_true_iff, decide_eq_true_iff] at this
    refine skip (pN (seq (draw' (by kernel_rfl) ?_)))
    refine tk 0 rfl (fA 3 (.t rfl)) ?_
    refine tk 1 rfl (Ev.ldv ty3 (.t rfl) SVerdict.l_meter) ?_
    refine tk 2 rfl (Ev.lss_i (.t rfl) (.c (v := I 0) rfl)) ?_
    refine tk 3 rfl (Ev.move (.t rfl)) ?_
    refine tkg 4 rfl rfl rfl (fA 3 (.t rfl)) ?_
    refine tkg 5 rfl rfl rfl (Ev.ldx a.meters ty25 (.g rfl id) SConf.l_meters) ?_
    refine tkg 6 rfl rfl rfl (fA 3 (.t rfl)) ?_
    refine tkg 7 rfl rfl rfl (Ev.ldv ty3 (.g rfl id) SVerdict.l_meter) ?_
    refine tkg 8 rfl rfl rfl (Ev.indexAddr Tryz.underlying25 ty81 (.g rfl id) (.g rfl id) (fun w I => (ha.keep0 I.keeps).ms) (fun _ => by
      rename_i hg
      have hgg : ¬ V.meter < 0 := fun hh => by
        have h9 : (decide (V.meter < 0) == false) = true := by first | exact (Bool.and_eq_true_iff.1 hg).2 | exact hg | exact (Bool.and_eq_true_iff.1 (Bool.and_eq_true_iff.1 hg).2).2
        rw [decide_eq_true hh] at h9
        cases h9
      show 0 ≤ V.meter ∧ V.meter < _
      omega)) ?_
    refine tkg 9 rfl rfl rfl (Ev.loadS0 ty81 (.g rfl id) (fun w I => (ha.keep0 I.keeps).ms) (fun _ => by
      rename_i hg
      have hgg : ¬ V.meter < 0 := fun hh => by
        have h9 : (decide (V.meter < 0) == false) = true := by first | exact (Bool.and_eq_true_iff.1 hg).2 | exact hg | exact (Bool.and_eq_true_iff.1 (Bool.and_eq_true_iff.1 hg).2).2
        rw [decide_eq_true hh] at h9
        cases h9
      show 0 ≤ V.meter ∧ V.meter < _
      omega)) ?_
    refine tkg 10 rfl rfl rfl (fA 3 (.t rfl)) ?_
    refine tkg 11 rfl rfl rfl (Ev.ldx b.meters ty25 (.g rfl id) SConf.l_meters) ?_
    refine tkg 12 rfl rfl rfl (fA 3 (.t rfl)) ?_
    refine tkg 13 rfl rfl rfl (Ev.ldv ty3 (.g rfl id) SVerdict.l_meter) ?_
    refine tkg 14 rfl rfl rfl (Ev.indexAddr Tryz.underlying25 ty81 (.g rfl id) (.g rfl id) (fun w I => (hb.keep0 I.keeps).ms) (fun _ => by
      rename_i hg
      have hgg : ¬ V.meter < 0 := fun hh => by
        have h9 : (decide (V.meter < 0) == false) = true := by first | exact (Bool.and_eq_true_iff.1 hg).2 | exact hg | exact (Bool.and_eq_true_iff.1 (Bool.and_eq_true_iff.1 hg).2).2
        rw [decide_eq_true hh] at h9
        cases h9
      show 0 ≤ W.meter ∧ W.meter < _
      omega)) ?_
    refine tkg 15 rfl rfl rfl (Ev.loadS0 ty81 (.g rfl id) (fun w I => (hb.keep0 I.keeps).ms) (fun _ => by
      rename_i hg
      have hgg : ¬ V.meter < 0 := fun hh => by
        have h9 : (decide (V.meter < 0) == false) = true := by first | exact (Bool.and_eq_true_iff.1 hg).2 | exact hg | exact (Bool.and_eq_true_iff.1 (Bool.and_eq_true_iff.1 hg).2).2
        rw [decide_eq_true hh] at h9
        cases h9
      show 0 ≤ W.meter ∧ W.meter < _
      omega)) ?_
    refine tkg 16 rfl rfl rfl (Ev.eqlS rfl eqok81 rfl (by kernel_rfl) (.g rfl id) (.g rfl id)) ?_
    refine tk 17 rfl (Ev.pkO (.t rfl) rfl) ?_
    refine tk 18 rfl (Ev.move (.t rfl)) ?_
    refine tkg 19 rfl rfl rfl (fA 4 (.t rfl)) ?_
    refine tkg 20 rfl rfl rfl (Ev.ldv ty3 (.g rfl id) SVerdict.l_mirror) ?_
    refine tkg 21 rfl rfl rfl (Ev.lss_i (.g rfl id) (.c (v := I 0) rfl)) ?_
    refine tkg 22 rfl rfl rfl (Ev.move (.g rfl id)) ?_
    refine tkg 23 rfl rfl rfl (fA 4 (.t rfl)) ?_
    refine tkg 24 rfl rfl rfl (Ev.ldx a.mirrors ty26 (.g rfl id) SConf.l_mirrors) ?_
    refine tkg 25 rfl rfl rfl (fA 4 (.t rfl)) ?_
    refine tkg 26 rfl rfl rfl (Ev.ldv ty3 (.g rfl id) SVerdict.l_mirror) ?_
    refine tkg 27 rfl rfl rfl (Ev.indexAddr Tryz.underlying26 ty83 (.g rfl id) (.g rfl id) (fun w I => (ha.keep0 I.keeps).xs) (fun _ => by
      rename_i hg
      have hgg : ¬ V.mirror < 0 := fun hh => by
        have h9 : (decide (V.mirror < 0) == false) = true := by first | exact (Bool.and_eq_true_iff.1 hg).2 | exact hg | exact (Bool.and_eq_true_iff.1 (Bool.and_eq_true_iff.1 hg).2).2
        rw [decide_eq_true hh] at h9
        cases h9
      show 0 ≤ V.mirror ∧ V.mirror < _
      omega)) ?_
    refine tkg 28 rfl rfl rfl (Ev.loadS0 ty83 (.g rfl id) (fun w I => (ha.keep0 I.keeps).xs) (fun _ => by
      rename_i hg
      have hgg : ¬ V.mirror < 0 := fun hh => by
        have h9 : (decide (V.mirror < 0) == false) = true := by first | exact (Bool.and_eq_true_iff.1 hg).2 | exact hg | exact (Bool.and_eq_true_iff.1 (Bool.and_eq_true_iff.1 hg).2).2
        rw [decide_eq_true hh] at h9
        cases h9
      show 0 ≤ V.mirror ∧ V.mirror < _
      omega)) ?_
    refine tkg 29 rfl rfl rfl (fA 4 (.t rfl)) ?_
    refine tkg 30 rfl rfl rfl (Ev.ldx b.mirrors ty26 (.g rfl id) SConf.l_mirrors) ?_
    refine tkg 31 rfl rfl rfl (fA 4 (.t rfl)) ?_
    refine tkg 32 rfl rfl rfl (Ev.ldv ty3 (.g rfl id) SVerdict.l_mirror) ?_
    refine tkg 33 rfl rfl rfl (Ev.indexAddr Tryz.underlying26 ty83 (.g rfl id) (.g rfl id) (fun w I => (hb.keep0 I.keeps).xs) (fun _ => by
      rename_i hg
      have hgg : ¬ V.mirror < 0 := fun hh => by
        have h9 : (decide (V.mirror < 0) == false) = true := by first | exact (Bool.and_eq_true_iff.1 hg).2 | exact hg | exact (Bool.and_eq_true_iff.1 (Bool.and_eq_true_iff.1 hg).2).2
        rw [decide_eq_true hh] at h9
        cases h9
      show 0 ≤ W.mirror ∧ W.mirror < _
      omega)) ?_
    refine tkg 34 rfl rfl rfl (Ev.loadS0 ty83 (.g rfl id) (fun w I => (hb.keep0 I.keeps).xs) (fun _ => by
      rename_i hg
      have hgg : ¬ V.mirror < 0 := fun hh => by
        have h9 : (decide (V.mirror < 0) == false) = true := by first | exact (Bool.and_eq_true_iff.1 hg).2 | exact hg | exact (Bool.and_eq_true_iff.1 (Bool.and_eq_true_iff.1 hg).2).2
        rw [decide_eq_true hh] at h9
        cases h9
      show 0 ≤ W.mirror ∧ W.mirror < _
      omega)) ?_
    refine tkg 35 rfl rfl rfl (Ev.eqlS rfl eqok83 rfl (by kernel_rfl) (.g rfl id) (.g rfl id)) ?_
    refine tkg 36 rfl rfl rfl (Ev.pkO (.g rfl id) rfl) ?_
    refine tk 37 rfl (Ev.pkA (.t rfl) rfl) ?_
    refine tk 38 rfl (Ev.assign (.t rfl)) ?_
    refine ovr (pN (ret (done rfl (.tmp rfl .nil) (retE ?_))))
    have g : likeB V W l k = ((decide (V.meter < 0) || SMeterConf.eqb (l.ms.getD V.meter.toNat eMeterConf.zero) (k.ms.getD W.meter.toNat eMeterConf.zero)) && (decide (V.mirror < 0) || SMirrorConf.eqb (l.xs.getD V.mirror.toNat eMirrorConf.zero) (k.xs.getD W.mirror.toNat eMirrorConf.zero))) := by
      unfold likeB
      rw [g1, g2, g3, g4, decide_eq_true rfl, decide_eq_true rfl, decide_eq_true rfl, decide_eq_true rfl]
      rfl
    rw [g]; rfl
theorem like22_eq {l k : CL} {d e n : Int} {h : SHeader} {c : Int} : (decide (¬ checkH h c = 2) && likeB (decV l d n h) (decV k e n h) l k) = likeV l d k e n h c := by
  unfold likeV deE dvV
  by_cases hc : checkH h c = 2
  · rw [if_pos hc, decide_eq_false (fun z => z hc), decide_eq_false (by decide)]
    simp
  · rw [if_neg hc, if_neg hc, if_neg hc, decide_eq_true hc, decide_eq_true rfl]
theorem eqb_comm_of {α : Type} {q : α → α → Bool} (hi : ∀ x y, q x y = true ↔ x = y) (x y : α) : q x y = q y x := by
  rw [Bool.eq_iff_iff, hi, hi]
  exact eq_comm
theorem likeB_comm (v u : SVerdict) (l k : CL) : likeB v u l k = likeB u v k l := by
  have key : ∀ (v u : SVerdict) (l k : CL), likeB v u l k = true → likeB u v k l = true := by
    intro v u l k h
    unfold likeB at h ⊢
    simp only [Bool.and_eq_true, decide_eq_true_iff] at h ⊢
    obtain ⟨h1, h2, h3, h4, h5, h6⟩ := h
    refine ⟨h1.symm, h2.symm, h3.symm, h4.symm, ?_, ?_⟩
    · rw [← h3, eqb_comm_of SMeterConf.eqb_iff]
      exact h5
    · rw [← h4, eqb_comm_of SMirrorConf.eqb_iff]
      exact h6
  rw [Bool.eq_iff_iff]
  exact ⟨key _ _ _ _, key _ _ _ _⟩
theorem likeB_self (v : SVerdict) (l : CL) : likeB v v l l = true := by
  unfold likeB
  rw [(SMeterConf.eqb_iff _ _).2 rfl, (SMirrorConf.eqb_iff _ _).2 rfl]
  simp
theorem likeV_comm (l : CL) (d : Int) (k : CL) (e n : Int) (h : SHeader) (c : Int) : likeV l d k e n h c = likeV k e l d n h c := by
  unfold likeV
  rw [likeB_comm]
theorem likeV_self (l : CL) (d n : Int) (h : SHeader) (c : Int) : likeV l d l d n h c = decide (¬ checkH h c = 2) := by
  unfold likeV deE
  rw [likeB_self, Bool.and_true]
  by_cases hc : checkH h c = 2
  · rw [if_pos hc, decide_eq_false (by decide), decide_eq_false (fun z => z hc)]
  · rw [if_neg hc, decide_eq_true rfl, decide_eq_true hc]
end Go.Proofs.YtmdkmclgfgaahaaGreat
namespace Go.Proofs.YtmdkmclgfgaahaaGreat
open Go Go.Gx Go.Proofs.YtmdkmclgfgaahaaGreat.Tri
theorem en8 : Gx.Enters Tryz.prog 8 := Gx.Enters.mk' (by kernel_rfl)
structure CL.Fits (l : CL) : Prop where
  ps : l.ps.length * 8 ≤ 140737488351232
  rs : l.rs.length * 40 ≤ 140737488351232
  us : l.us.length * 152 ≤ 140737488351232
  ms : l.ms.length * 40 ≤ 140737488351232
  xs : l.xs.length * 32 ≤ 140737488351232
end Go.Proofs.YtmdkmclgfgaahaaGreat
namespace Go.Proofs.YtmdkmclgfgaahaaGreat
open Go Go.Gx Go.Proofs.YtmdkmclgfgaahaaGreat.Tri
theorem en5 : Gx.Enters Tryz.prog 5 := Gx.Enters.mk' (by kernel_rfl)
theorem en6 : Gx.Enters Tryz.prog 6 := Gx.Enters.mk' (by kernel_rfl)
theorem ty45 : TyOK Tryz.prog 45 eLaw22Came := TyOK.mk' (by kernel_rfl) (by kernel_rfl)
end Go.Proofs.YtmdkmclgfgaahaaGreat
namespace Go.Proofs.YtmdkmclgfgaahaaGreat
open Go Go.Gx Go.Proofs.YtmdkmclgfgaahaaGreat.Tri
theorem like_to (p q : Pl) (l k : CL) (d e n : Int) (h : SHeader) (dt : List UInt8) (B : Bool) (w : World) (hp : PlanAt w p l d) (hq : PlanAt w q k e) (hpo : PlanOK p l d) (hqo : PlanOK q k e) (hd : IsSl u8E w h.data.v dt) (hl : dt.length ≤ 1152921504606846975) (hB : likeV l d k e n h dt.length = B) : Calls Tryz.prog 10 #[.pointer (some ⟨p.b, 0, none⟩), .pointer (some ⟨q.b, 0, none⟩), I n, eHeader.val h] w (RetV w (.bool B)) := by
  subst hB
  exact like_ok p q l k d e n h dt w hp hq hpo hqo hd hl
theorem like_nilR (p : Pl) (l : CL) (d n : Int) (h : SHeader) (dt : List UInt8) (w : World) (hp : PlanAt w p l d) (hpo : PlanOK p l d) (hd : IsSl u8E w h.data.v dt) (hl : dt.length ≤ 1152921504606846975) : Calls Tryz.prog 10 #[.pointer (some ⟨p.b, 0, none⟩), .pointer none, I n, eHeader.val h] w (RetV w (.bool false)) :=
  like_bad _ _ n h _ _ _ _ w (fun w1 k => decide_ok p l d n h dt w1 (hp.keep k) hpo (hd.keep0 k) hl) (fun w1 _ => decide_nil n h w1) (.inr (by decide))
theorem like_nilL (p : Pl) (l : CL) (d n : Int) (h : SHeader) (dt : List UInt8) (w : World) (hp : PlanAt w p l d) (hpo : PlanOK p l d) (hd : IsSl u8E w h.data.v dt) (hl : dt.length ≤ 1152921504606846975) : Calls Tryz.prog 10 #[.pointer none, .pointer (some ⟨p.b, 0, none⟩), I n, eHeader.val h] w (RetV w (.bool false)) :=
  like_bad _ _ n h _ _ _ _ w (fun w1 _ => decide_nil n h w1) (fun w1 k => decide_ok p l d n h dt w1 (hp.keep k) hpo (hd.keep0 k) hl) (.inl (by decide))
theorem z45 : (Tryz.prog.info? 45).bind (·.zero) = some (eLaw22Came.val eLaw22Came.zero) := by kernel_rfl
theorem en9 : Gx.Enters Tryz.prog 9 := Gx.Enters.mk' (by kernel_rfl)
theorem en10 : Gx.Enters Tryz.prog 10 := Gx.Enters.mk' (by kernel_rfl)
set_option maxRecDepth 8000 in
theorem PlanLike_walk (a b : SConf) (l k : CL) (u : Value) (xs : List SLaw22Came) (dts : List (List UInt8)) (w : World) (ha : ConfAt w a l) (hln : l.Names) (hlz : l.n ≤ 4611686018427387904) (hb : ConfAt w b k) (hkn : k.Names) (hkz : k.n ≤ 4611686018427387904) (hu : IsSl eLaw22Came w u xs) (hpk : PksAt w xs dts) : Calls Tryz.prog 3 #[eConf.val a, eConf.val b, u] w (RetV w (.bool true)) := by
  have hle := hu.le
  refine en0 115 Tryz.func3 ?_
  refine sg (cons (box (E := eConf) (.t rfl) (fun b1 => ?_)))
  refine cons (box (E := eConf) (.t rfl) (fun b2 => ?_))
  refine co (Ev.assign (.c (v := .bool false) rfl)) ?_
  refine nP (seq (seq (emp0 ?_)))
  refine region (cons (callv en5 .nil (fun w I => works_ok w) ?_))
  refine co (Ev.not (.t rfl)) ?_
  refine nP (condF rfl (rfl) ?_)
  refine skip (pN (seq (sg (co (Ev.ldx a ty28 (.t rfl) (Lens.id _)) ?_))))
  refine cons (callv en6 (.cons (.t rfl) .nil) (fun w I => rmay_ok a l w (ha.keep0 I.keeps) hln hlz) ?_)
  refine co (Ev.not (.t rfl)) ?_
  refine mv rfl (cg rfl rfl (Ev.ldx b ty28 (.t rfl) (Lens.id _)) ?_)
  refine cons (callg rfl rfl en6 (.cons (.g rfl id) .nil) (fun hg w I => rmay_ok b k w (hb.keep0 I.keeps) hkn hkz) ?_)
  refine cg rfl rfl (Ev.not (.g rfl id)) ?_
  refine co (Ev.pkO (.t rfl) rfl) ?_
  refine nP ?_
  first | refine condD rfl (fun h1 => ?_) (fun h1 => ?_) | refine cond rfl (fun h1 => ?_) (fun h1 => ?_)
  · refine sg (co (Ev.assign (.c (v := .bool true) rfl)) ?_)
    refine nP (ret (pR (done rfl (.tmp rfl .nil) (retE ?_))))
    rfl
  · have h9 : mayB l a.default = true ∧ mayB k b.default = true := by simpa using h1
    obtain ⟨hma, hmb⟩ := h9
    refine skip (pN (sg (co (Ev.ldx a ty28 (.t rfl) (Lens.id _)) ?_)))
    refine cons (calln (X := Pl × List Res) (CompileJ l a.default) (fun x : Pl × List Res => .tuple #[.pointer (plO l a.default x.1.b), I (plE l a.default)]) (fun x => x.2) en7 (.cons (.t rfl) .nil) (fun w I => compile_plan a l w (ha.keep0 I.keeps) hln hlz) (fun x1 hx1 => ?_))
    refine mv rfl (co (Ev.extract (.t rfl) rfl) (co (Ev.extract (.t rfl) rfl) (asn rfl (asn rfl (nP (seq (takeSeps (r := Emp) (by repeat first | exact Rem.head | apply Rem.tail) ?_)))))))
    refine region (co (Ev.ldx b ty28 (.t rfl) (Lens.id _)) ?_)
    refine cons (calln (X := Pl × List Res) (CompileJ k b.default) (fun x : Pl × List Res => .tuple #[.pointer (plO k b.default x.1.b), I (plE k b.default)]) (fun x => x.2) en7 (.cons (.t rfl) .nil) (fun w I => compile_plan b k w (hb.keep0 I.keeps) hkn hkz) (fun x2 hx2 => ?_))
    refine mv rfl (co (Ev.extract (.t rfl) rfl) (co (Ev.extract (.t rfl) rfl) (asn rfl (asn rfl (nP (seq (seq (takeSeps (r := Seps Emp x1.2) (by repeat first | exact Rem.head | apply Rem.tail) ?_))))))))
    refine region (co (Ev.to (v' := I 0) (Ev.move (.t rfl)) (congrArg Gx.I (if_pos hma))) ?_)
    refine co (Ev.to (v' := .bool false) (Ev.neq_i (.t rfl) (.c (v := I 0) rfl)) (congrArg Value.bool (by simp))) ?_
    refine co (Ev.to (v' := .bool false) (Ev.move (.t rfl)) (rfl)) ?_
    refine cg rfl rfl (Ev.to (v' := I 0) (Ev.move (.t rfl)) (congrArg Gx.I (if_pos hmb))) ?_
    refine cg rfl rfl (Ev.to (v' := .bool false) (Ev.neq_i (.g rfl id) (.c (v := I 0) rfl)) (congrArg Value.bool (by simp))) ?_
    refine co (Ev.to (v' := .bool false) (Ev.pkO (.t rfl) rfl) (rfl)) ?_
    refine nP (condF rfl (rfl) ?_)
    refine skip (pN (seq (sg (co (Ev.assign (.c (v := I 0) rfl)) ?_))))
    refine nP (block ?_)
    obtain ⟨hpo, hpa⟩ := hx1 hma
    obtain ⟨hqo, hqa⟩ := hx2 hmb
    refine lp (X := Int) (fun x : Int => (0 ≤ x ∧ x ≤ xs.length)) (fun x : Int => [dz, (2, true, u), (3, true, .pointer (some ⟨b1, 0, none⟩)), (4, true, .pointer (some ⟨b2, 0, none⟩)), (7, true, .pointer (plO l a.default x1.1.b)), (9, true, .pointer (plO k b.default x2.1.b)), (11, true, I x)]) (fun x : Int => [Seps (Seps Emp x1.2) x2.2, Var b2 eConf b 28, Var b1 eConf a 28]) (fun x : Int => ((xs.length : Int) - x).toNat) (0) ?_ (fun x hx => ?_)
    · omega
    obtain ⟨i, rfl⟩ : ∃ y, y = x := ⟨x, rfl⟩
    have hi : 0 ≤ i ∧ i ≤ xs.length := hx
    clear hx
    show Sat _ _ [dz, (2, true, u), (3, true, .pointer (some ⟨b1, 0, none⟩)), (4, true, .pointer (some ⟨b2, 0, none⟩)), (7, true, .pointer (plO l a.default x1.1.b)), (9, true, .pointer (plO k b.default x2.1.b)), (11, true, I i)] [Seps (Seps Emp x1.2) x2.2, Var b2 eConf b 28, Var b1 eConf a 28]
    refine seq (sg (mv rfl (mv rfl (co (Ev.len Tryz.underlying29 (.t rfl) (fun w I => hu.keep0 I.keeps)) ?_))))
    refine co (Ev.lss_i (.t rfl) (.t rfl)) ?_
    refine mv rfl (cg rfl rfl (Ev.move (.t rfl)) ?_)
    refine cg rfl rfl (Ev.lss_i (.g rfl id) (.c (v := I 60) rfl)) ?_
    refine co (Ev.pkA (.t rfl) rfl) ?_
    refine nP ?_
    first | refine condD rfl (fun h3 => ?_) (fun h3 => ?_) | refine cond rfl (fun h3 => ?_) (fun h3 => ?_)
    · try simp only [Gx.nb] at h3
      refine skip (pN (seq (block (seq ?_))))
      obtain ⟨B, hB⟩ : ∃ z, (likeV l a.default k b.default (xs.getD i.toNat eLaw22Came.zero).in_ (xs.getD i.toNat eLaw22Came.zero).h (dts.getD i.toNat []).length) = z := ⟨_, rfl⟩
      refine region (mv rfl (mv rfl (co (Ev.indexAddr Tryz.underlying29 ty45 (.t rfl) (.t rfl) (fun w I => hu.keep0 I.keeps) (fun _ => by omega)) ?_)))
      refine co (Ev.loadS0 ty45 (.t rfl) (fun w I => hu.keep0 I.keeps) (fun _ => by omega)) ?_
      refine cons (alloc z45 (fun b3 => ?_))
      refine cons (stv ty45 (Lens.id _) (.t rfl) (.t rfl) ?_)
      refine nP (sg (co (fA 1 (.t rfl)) ?_))
      refine co (Ev.ldv ty43 (.t rfl) SLaw22Came.l_h) ?_
      refine cons (callv en8 (.cons (.t rfl) .nil) (fun w I => rmay22 _ ((dts.getD i.toNat []).length : Int) w) ?_)
      refine mv rfl (cg rfl rfl (Ev.ldx a ty28 (.t rfl) (Lens.id _)) ?_)
      refine cg rfl rfl (Ev.ldx b ty28 (.t rfl) (Lens.id _)) ?_
      refine cg rfl rfl (fA 0 (.t rfl)) ?_
      refine cg rfl rfl (Ev.ldv ty3 (.g rfl id) SLaw22Came.l_in_) ?_
      refine cg rfl rfl (fA 1 (.t rfl)) ?_
      refine cg rfl rfl (Ev.ldv ty43 (.g rfl id) SLaw22Came.l_h) ?_
      refine cons (callg rfl rfl en9 (.cons (.g rfl id) (.cons (.g rfl id) (.cons (.g rfl id) (.cons (.g rfl id) .nil)))) (fun hg w I => rlike22 a b l k _ _ w (ha.keep0 I.keeps) (hb.keep0 I.keeps) hma hmb) ?_)
      refine co (Ev.to (v' := .bool B) (Ev.pkA (.t rfl) rfl) (congrArg Value.bool (like22_eq.trans hB))) ?_
      refine asn rfl (nP (seq (draw' (by kernel_rfl) ?_)))
      refine tk 0 rfl (Ev.to (v' := .pointer (some ⟨x1.1.b, 0, none⟩)) (Ev.move (.t rfl)) (congrArg Value.pointer (if_pos hma))) ?_
      refine tk 1 rfl (Ev.to (v' := .pointer (some ⟨x2.1.b, 0, none⟩)) (Ev.move (.t rfl)) (congrArg Value.pointer (if_pos hmb))) ?_
      refine tk 2 rfl (fA 0 (.t rfl)) ?_
      refine tk 3 rfl (Ev.ldv ty3 (.t rfl) SLaw22Came.l_in_) ?_
      refine tk 4 rfl (fA 1 (.t rfl)) ?_
      refine tk 5 rfl (Ev.ldv ty43 (.t rfl) SLaw22Came.l_h) ?_
      refine tk 7 rfl (Ev.move (.t rfl)) ?_
      refine al1 6 rfl ((callv en10 (.cons (.t rfl) (.cons (.t rfl) (.cons (.t rfl) (.cons (.t rfl) .nil)))) (fun w I => like_to x1.1 x2.1 l k a.default b.default _ _ (dts.getD i.toNat []) _ w (pl_at2 hpa (by repeat first | exact mH | apply mT | apply mA) w I) (pl_at hqa (by repeat first | exact mH | apply mT | apply mA) w I) hpo hqo ((hpk.sl _ (by omega)).keep0 I.keeps) (hpk.ln _ (by omega)) hB) ?_))
      refine hdn (tk 8 rfl (Ev.to (v' := .bool false) (Ev.neq_b Tryz.underlying4 (.t rfl) (.t rfl)) (congrArg Value.bool (by simp))) ?_)
      refine tk 9 rfl (Ev.to (v' := .bool false) (Ev.move (.t rfl)) (rfl)) ?_
      refine tkg 10 rfl rfl rfl (Ev.to (v' := .pointer (some ⟨x2.1.b, 0, none⟩)) (Ev.move (.t rfl)) (congrArg Value.pointer (if_pos hmb))) ?_
      refine tkg 11 rfl rfl rfl (Ev.to (v' := .pointer (some ⟨x1.1.b, 0, none⟩)) (Ev.move (.t rfl)) (congrArg Value.pointer (if_pos hma))) ?_
      refine tkg 12 rfl rfl rfl (fA 0 (.t rfl)) ?_
      refine tkg 13 rfl rfl rfl (Ev.ldv ty3 (.g rfl id) SLaw22Came.l_in_) ?_
      refine tkg 14 rfl rfl rfl (fA 1 (.t rfl)) ?_
      refine tkg 15 rfl rfl rfl (Ev.ldv ty43 (.g rfl id) SLaw22Came.l_h) ?_
      refine tkg 17 rfl rfl rfl (Ev.move (.t rfl)) ?_
      refine al1 16 rfl ((callg rfl rfl en10 (.cons (.g rfl id) (.cons (.g rfl id) (.cons (.g rfl id) (.cons (.g rfl id) .nil)))) (fun hg w I => like_to x2.1 x1.1 k l b.default a.default _ _ (dts.getD i.toNat []) _ w (pl_at hqa (by repeat first | exact mH | apply mT | apply mA) w I) (pl_at2 hpa (by repeat first | exact mH | apply mT | apply mA) w I) hqo hpo ((hpk.sl _ (by omega)).keep0 I.keeps) (hpk.ln _ (by omega)) ((likeV_comm _ _ _ _ _ _ _).trans hB)) ?_))
      refine hdn (tkg 18 rfl rfl rfl (Ev.to (v' := .bool false) (Ev.neq_b Tryz.underlying4 (.g rfl id) (.g rfl id)) (congrArg Value.bool (by simp))) ?_)
      refine tk 19 rfl (Ev.to (v' := .bool false) (Ev.pkO (.t rfl) rfl) (rfl)) ?_
      refine tk 20 rfl (Ev.to (v' := .bool false) (Ev.move (.t rfl)) (rfl)) ?_
      refine tkg 21 rfl rfl rfl (Ev.to (v' := .pointer (some ⟨x1.1.b, 0, none⟩)) (Ev.move (.t rfl)) (congrArg Value.pointer (if_pos hma))) ?_
      refine tkg 22 rfl rfl rfl (Ev.to (v' := .pointer (some ⟨x1.1.b, 0, none⟩)) (Ev.move (.t rfl)) (congrArg Value.pointer (if_pos hma))) ?_
      refine tkg 23 rfl rfl rfl (fA 0 (.t rfl)) ?_
      refine tkg 24 rfl rfl rfl (Ev.ldv ty3 (.g rfl id) SLaw22Came.l_in_) ?_
      refine tkg 25 rfl rfl rfl (fA 1 (.t rfl)) ?_
      refine tkg 26 rfl rfl rfl (Ev.ldv ty43 (.g rfl id) SLaw22Came.l_h) ?_
      refine tkg 28 rfl rfl rfl (fA 1 (.t rfl)) ?_
      refine tkg 29 rfl rfl rfl (Ev.ldv ty43 (.g rfl id) SLaw22Came.l_h) ?_
      refine al1 27 rfl ((callg rfl rfl en10 (.cons (.g rfl id) (.cons (.g rfl id) (.cons (.g rfl id) (.cons (.g rfl id) .nil)))) (fun hg w I => like_to x1.1 x1.1 l l a.default a.default _ _ (dts.getD i.toNat []) _ w (pl_at2 hpa (by repeat first | exact mH | apply mT | apply mA) w I) (pl_at2 hpa (by repeat first | exact mH | apply mT | apply mA) w I) hpo hpo ((hpk.sl _ (by omega)).keep0 I.keeps) (hpk.ln _ (by omega)) (likeV_self _ _ _ _ _)) ?_))
      refine hdn (al1 30 rfl ((callg rfl rfl en8 (.cons (.g rfl id) .nil) (fun hg w I => rmay22 _ ((dts.getD i.toNat []).length : Int) w) ?_)))
      refine hdn (tkg 31 rfl rfl rfl (Ev.to (v' := .bool false) (Ev.neq_b Tryz.underlying4 (.g rfl id) (.g rfl id)) (congrArg Value.bool (by simp))) ?_)
      refine tk 32 rfl (Ev.to (v' := .bool false) (Ev.pkO (.t rfl) rfl) (rfl)) ?_
      refine tk 33 rfl (Ev.to (v' := .bool false) (Ev.move (.t rfl)) (rfl)) ?_
      refine tkg 34 rfl rfl rfl (Ev.to (v' := .pointer (some ⟨x1.1.b, 0, none⟩)) (Ev.move (.t rfl)) (congrArg Value.pointer (if_pos hma))) ?_
      refine tkg 35 rfl rfl rfl (fA 0 (.t rfl)) ?_
      refine tkg 36 rfl rfl rfl (Ev.ldv ty3 (.g rfl id) SLaw22Came.l_in_) ?_
      refine tkg 37 rfl rfl rfl (fA 1 (.t rfl)) ?_
      refine tkg 38 rfl rfl rfl (Ev.ldv ty43 (.g rfl id) SLaw22Came.l_h) ?_
      refine al1 39 rfl ((callg rfl rfl en10 (.cons (.g rfl id) (.cons (.c (v := (Go.Value.pointer none)) rfl) (.cons (.g rfl id) (.cons (.g rfl id) .nil)))) (fun hg w I => like_nilR x1.1 l a.default _ _ (dts.getD i.toNat []) w (pl_at2 hpa (by repeat first | exact mH | apply mT | apply mA) w I) hpo ((hpk.sl _ (by omega)).keep0 I.keeps) (hpk.ln _ (by omega))) ?_))
      refine hdn (tk 40 rfl (Ev.to (v' := .bool false) (Ev.pkO (.t rfl) rfl) (rfl)) ?_)
      refine tk 41 rfl (Ev.to (v' := .bool false) (Ev.move (.t rfl)) (rfl)) ?_
      refine tkg 42 rfl rfl rfl (Ev.to (v' := .pointer (some ⟨x2.1.b, 0, none⟩)) (Ev.move (.t rfl)) (congrArg Value.pointer (if_pos hmb))) ?_
      refine tkg 43 rfl rfl rfl (fA 0 (.t rfl)) ?_
      refine tkg 44 rfl rfl rfl (Ev.ldv ty3 (.g rfl id) SLaw22Came.l_in_) ?_
      refine tkg 45 rfl rfl rfl (fA 1 (.t rfl)) ?_
      refine tkg 46 rfl rfl rfl (Ev.ldv ty43 (.g rfl id) SLaw22Came.l_h) ?_
      refine al1 47 rfl ((callg rfl rfl en10 (.cons (.c (v := (Go.Value.pointer none)) rfl) (.cons (.g rfl id) (.cons (.g rfl id) (.cons (.g rfl id) .nil)))) (fun hg w I => like_nilL x2.1 k b.default _ _ (dts.getD i.toNat []) w (pl_at hqa (by repeat first | exact mH | apply mT | apply mA) w I) hqo ((hpk.sl _ (by omega)).keep0 I.keeps) (hpk.ln _ (by omega))) ?_))
      refine hdn (tk 48 rfl (Ev.to (v' := .bool false) (Ev.pkO (.t rfl) rfl) (rfl)) ?_)
      refine ovr (pN (condF rfl (rfl) ?_))
      refine skip (bN (pN (region (mv rfl (co (Ev.add_i (.t rfl) (.c (v := I 1) rfl) (fun _ => by omega)) ?_)))))
      refine asn rfl (nP (nx (X := Int) (i + 1) ?_ ?_))
      · try dsimp only
        omega
      · try dsimp only
        omega
    · try simp only [Gx.nb] at h3
      refine exit (pX (pX (bX (pN (sg (co (Ev.assign (.c (v := .bool true) rfl)) ?_))))))
      refine nP (ret (done rfl (.tmp rfl .nil) (retE ?_)))
      rfl
end Go.Proofs.YtmdkmclgfgaahaaGreat
