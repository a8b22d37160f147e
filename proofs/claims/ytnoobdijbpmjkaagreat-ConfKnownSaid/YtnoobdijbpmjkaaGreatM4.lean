/- Part. -/
import Derived.Test.YtnoobdijbpmjkaaGreatM3
set_option linter.unusedVariables false
set_option linter.unusedSimpArgs false
set_option linter.unusedSectionVars false
namespace Go.Proofs.YtnoobdijbpmjkaaGreat
open Go Go.Gx
abbrev CR (b : Nat) (x : CB) (l : CL) (d : Int) : Res := Seps (Var b eConf (x.c d) 28) [OwnS x.o1.v iE l.ps 3, OwnS x.o2.v eRoute l.rs 52, OwnS x.o3.v eRule l.us 76, OwnS x.o4.v eMeterConf l.ms 57, OwnS x.o5.v eMirrorConf l.xs 59]
def iP (l : CL) (c : SChange) : Int := idxF (fun y => decide (c.port = y)) l.ps
def iR (l : CL) (c : SChange) : Int := idxF (fun r => SPrefix.eqb r.to_ c.route.to_) l.rs
def iM (l : CL) (c : SChange) : Int := idxF (fun r => decide (r.name = c.meter.name)) l.ms
def iX (l : CL) (c : SChange) : Int := idxF (fun r => decide (r.name = c.mirror.name)) l.xs
def cutI {α : Type} (l : List α) (i : Int) : List α := if i < 0 then l else cutL l i (i + 1)
def addBad (l : CL) (c : SChange) : Bool := decide (0 ≤ iP l c) || decide (c.port < 0) || decide (255 < c.port)
def changeL (l : CL) (c : SChange) (rl : List SRule) : CL :=
  if c.kind = 1 then (if addBad l c = true then l else { l with ps := insL l.ps (lowB l.ps c.port) c.port })
  else if c.kind = 2 then { l with ps := cutI l.ps (iP l c) }
  else if c.kind = 3 then { l with rs := setL l.rs (iR l c) c.route }
  else if c.kind = 4 then { l with rs := cutI l.rs (iR l c) }
  else if c.kind = 5 then { l with ms := setL l.ms (iM l c) c.meter }
  else if c.kind = 6 then { l with ms := cutI l.ms (iM l c) }
  else if c.kind = 7 then { l with xs := setL l.xs (iX l c) c.mirror }
  else if c.kind = 8 then { l with xs := cutI l.xs (iX l c) }
  else if c.kind = 9 then { l with us := rl }
  else l
def changeD (d : Int) (c : SChange) : Int := if c.kind = 10 then c.default else d
def changeB (l : CL) (c : SChange) : Bool :=
  if c.kind = 1 then !addBad l c
  else if c.kind = 2 then decide (¬ iP l c < 0)
  else if c.kind = 3 then true
  else if c.kind = 4 then decide (¬ iR l c < 0)
  else if c.kind = 5 then true
  else if c.kind = 6 then decide (¬ iM l c < 0)
  else if c.kind = 7 then true
  else if c.kind = 8 then decide (¬ iX l c < 0)
  else if c.kind = 9 then true
  else decide (c.kind = 10)
theorem idxF_lt {α : Type} (p : α → Bool) (l : List α) : -1 ≤ idxF p l ∧ (idxF p l < 0 ∨ idxF p l < l.length) := by
  unfold idxF
  cases h : l.findIdx? p with
  | none => simp
  | some i =>
    have := (List.findIdx?_eq_some_iff_getElem.1 h).1
    simp only
    omega
theorem lowB_le (l : List Int) (x : Int) : 0 ≤ lowB l x ∧ lowB l x ≤ l.length := by
  unfold lowB
  have := List.countP_le_length (p := fun y => decide (y < x)) (l := l)
  omega
theorem chg1_ok (c : SChange) (p : Nat) (x : SRoute) (w : World) (hc : PtsTo eChange w p 0 c) : Calls Tryz.prog 130 #[eRoute.val x, .pointer (some ⟨p, 0, none⟩)] w (RetV w (.bool (SPrefix.eqb x.to_ c.route.to_))) := by
  refine en0 10 Tryz.func130 ?_
  refine sg (cons (box (E := eRoute) (.t rfl) (fun b1 => ?_)))
  refine co (Ev.assign (.c (v := .bool false) rfl)) ?_
  refine nP (sg (co (fA 0 (.t rfl)) ?_))
  refine co (Ev.ldx x.to_ ty50 (.t rfl) SRoute.l_to_) ?_
  refine co (fA 2 (.t rfl)) ?_
  refine co (fA 0 (.t rfl)) ?_
  refine co (Ev.load ty50 (.t rfl) (ptsL (fun w I => hc.keep I.keeps) (Lens.comp SChange.l_route SRoute.l_to_))) ?_
  refine co (Ev.eqlS rfl eqok50 rfl zk (.t rfl) (.t rfl)) ?_
  refine asn rfl (nP (ret (done rfl (.tmp rfl .nil) (retE ?_))))
  rfl
theorem chg2_ok (c : SChange) (p : Nat) (x : SMeterConf) (w : World) (hc : PtsTo eChange w p 0 c) : Calls Tryz.prog 132 #[eMeterConf.val x, .pointer (some ⟨p, 0, none⟩)] w (RetV w (.bool (decide (x.name = c.meter.name)))) := by
  refine en0 10 Tryz.func132 ?_
  refine sg (cons (box (E := eMeterConf) (.t rfl) (fun b1 => ?_)))
  refine co (Ev.assign (.c (v := .bool false) rfl)) ?_
  refine nP (sg (co (fA 0 (.t rfl)) ?_))
  refine co (Ev.ldx x.name ty9 (.t rfl) SMeterConf.l_name) ?_
  refine co (fA 21 (.t rfl)) ?_
  refine co (fA 0 (.t rfl)) ?_
  refine co (Ev.load ty9 (.t rfl) (ptsL (fun w I => hc.keep I.keeps) (Lens.comp SChange.l_meter SMeterConf.l_name))) ?_
  refine co (Ev.eql_s (.t rfl) (.t rfl)) ?_
  refine asn rfl (nP (ret (done rfl (.tmp rfl .nil) (retE ?_))))
  rfl
theorem chg3_ok (c : SChange) (p : Nat) (x : SMirrorConf) (w : World) (hc : PtsTo eChange w p 0 c) : Calls Tryz.prog 134 #[eMirrorConf.val x, .pointer (some ⟨p, 0, none⟩)] w (RetV w (.bool (decide (x.name = c.mirror.name)))) := by
  refine en0 10 Tryz.func134 ?_
  refine sg (cons (box (E := eMirrorConf) (.t rfl) (fun b1 => ?_)))
  refine co (Ev.assign (.c (v := .bool false) rfl)) ?_
  refine nP (sg (co (fA 0 (.t rfl)) ?_))
  refine co (Ev.ldx x.name ty9 (.t rfl) SMirrorConf.l_name) ?_
  refine co (fA 25 (.t rfl)) ?_
  refine co (fA 0 (.t rfl)) ?_
  refine co (Ev.load ty9 (.t rfl) (ptsL (fun w I => hc.keep I.keeps) (Lens.comp SChange.l_mirror SMirrorConf.l_name))) ?_
  refine co (Ev.eql_s (.t rfl) (.t rfl)) ?_
  refine asn rfl (nP (ret (done rfl (.tmp rfl .nil) (retE ?_))))
  rfl
theorem en130 : Gx.Enters Tryz.prog 130 := Gx.Enters.mk' zk
theorem en132 : Gx.Enters Tryz.prog 132 := Gx.Enters.mk' zk
theorem en134 : Gx.Enters Tryz.prog 134 := Gx.Enters.mk' zk
theorem en128 : Gx.Enters Tryz.prog 128 := Gx.Enters.mk' zk
theorem en129 : Gx.Enters Tryz.prog 129 := Gx.Enters.mk' zk
theorem en131 : Gx.Enters Tryz.prog 131 := Gx.Enters.mk' zk
theorem en133 : Gx.Enters Tryz.prog 133 := Gx.Enters.mk' zk
theorem en135 : Gx.Enters Tryz.prog 135 := Gx.Enters.mk' zk
theorem en136 : Gx.Enters Tryz.prog 136 := Gx.Enters.mk' zk
theorem en137 : Gx.Enters Tryz.prog 137 := Gx.Enters.mk' zk
theorem en138 : Gx.Enters Tryz.prog 138 := Gx.Enters.mk' zk
theorem en139 : Gx.Enters Tryz.prog 139 := Gx.Enters.mk' zk
theorem en140 : Gx.Enters Tryz.prog 140 := Gx.Enters.mk' zk
theorem en141 : Gx.Enters Tryz.prog 141 := Gx.Enters.mk' zk
theorem en142 : Gx.Enters Tryz.prog 142 := Gx.Enters.mk' zk
theorem en143 : Gx.Enters Tryz.prog 143 := Gx.Enters.mk' zk
theorem change_ok (b : Nat) (x : CB) (l : CL) (d : Int) (c : SChange) (rl : List SRule) (w : World) (h : At (CR b x l d) w) (hr : ∀ w1, Keeps (CR b x l d).foot w w1 → IsSl eRule w1 c.rules.v rl) (hs : l.ps.Pairwise (· < ·)) (hb : l.ps.length < 1048576 ∧ l.rs.length < 1048576 ∧ l.ms.length < 1048576 ∧ l.xs.length < 1048576) (hrl : rl.length * 152 ≤ 140737488355328) : Calls Tryz.prog 92 #[.pointer (some ⟨b, 0, none⟩), eChange.val c] w (RetR w (CR b x l d) (fun _ : CB => True) (fun _ => .bool (changeB l c)) (fun x2 => CR b x2 (changeL l c rl) (changeD d c))) := by
  refine enter (CR b x l d).foot 185 [CR b x l d] Tryz.func92 rfl rfl (Nat.le_of_ble_eq_true rfl) (start_at h) ?_
  refine sepsOut Rem.head ?_
  refine sg (cons (box (E := eChange) (.t rfl) (fun b1 => ?_)))
  refine co (Ev.assign (.c (v := .bool false) rfl)) ?_
  refine nP (sg (co (Ev.assign (.c (v := .bool true) rfl)) ?_))
  refine nP (seq (draw' zk ?_))
  refine tk 0 rfl (Ev.move (.t rfl)) ?_
  refine tk 1 rfl (Ev.nilCheck (.t rfl)) ?_
  refine tk 2 rfl (fA 0 (.t rfl)) ?_
  refine tk 3 rfl (Ev.to (v' := x.o1.v) (Ev.ldv ty22 (.t rfl) SConf.l_ports) (rfl)) ?_
  refine tk 4 rfl (fA 1 (.t rfl)) ?_
  refine tk 5 rfl (Ev.ldv ty3 (.t rfl) SChange.l_port) ?_
  refine al1 6 rfl ((callv en128 (.cons (.t rfl) (.cons (.t rfl) .nil)) (fun w I => index_ok _ l.ps _ w (io w I)) ?_))
  refine hdn (tk 7 rfl (Ev.assign (.t rfl)) ?_)
  refine ovr (pN (sg (mv rfl (co (Ev.nilCheck (.t rfl)) ?_))))
  refine co (fA 1 (.t rfl)) ?_
  refine co (Ev.to (v' := x.o2.v) (Ev.ldv ty23 (.t rfl) SConf.l_routes) (rfl)) ?_
  refine co (Ev.makeFunc (f := 130) (.cons (.t rfl) .nil)) ?_
  refine cons (callv en129 (.cons (.t rfl) (.cons (.t rfl) .nil)) (fun w I => indexf_52 130 [.pointer (some ⟨b1, 0, none⟩)] (fun r => SPrefix.eqb r.to_ c.route.to_) _ l.rs w en130 (io w I) (fun z w1 _ k1 => chg1_ok c b1 z w1 (ptsVar zm (Lens.id _) w1 (I.grow k1)))) ?_)
  refine asn rfl (nP (sg (mv rfl (co (Ev.nilCheck (.t rfl)) ?_))))
  refine co (fA 3 (.t rfl)) ?_
  refine co (Ev.to (v' := x.o4.v) (Ev.ldv ty25 (.t rfl) SConf.l_meters) (rfl)) ?_
  refine co (Ev.makeFunc (f := 132) (.cons (.t rfl) .nil)) ?_
  refine cons (callv en131 (.cons (.t rfl) (.cons (.t rfl) .nil)) (fun w I => indexf_57 132 [.pointer (some ⟨b1, 0, none⟩)] (fun r => decide (r.name = c.meter.name)) _ l.ms w en132 (io w I) (fun z w1 _ k1 => chg2_ok c b1 z w1 (ptsVar zm (Lens.id _) w1 (I.grow k1)))) ?_)
  refine asn rfl (nP (sg (mv rfl (co (Ev.nilCheck (.t rfl)) ?_))))
  refine co (fA 4 (.t rfl)) ?_
  refine co (Ev.to (v' := x.o5.v) (Ev.ldv ty26 (.t rfl) SConf.l_mirrors) (rfl)) ?_
  refine co (Ev.makeFunc (f := 134) (.cons (.t rfl) .nil)) ?_
  refine cons (callv en133 (.cons (.t rfl) (.cons (.t rfl) .nil)) (fun w I => indexf_59 134 [.pointer (some ⟨b1, 0, none⟩)] (fun r => decide (r.name = c.mirror.name)) _ l.xs w en134 (io w I) (fun z w1 _ k1 => chg3_ok c b1 z w1 (ptsVar zm (Lens.id _) w1 (I.grow k1)))) ?_)
  refine asn rfl (nP (seq (sg (co (fA 0 (.t rfl)) ?_))))
  refine co (Ev.ldv ty3 (.t rfl) SChange.l_kind) ?_
  refine nP (block (sg (co (Ev.eql_i (.t rfl) (.c (v := I 1) rfl)) ?_)))
  refine asn rfl (nP ?_)
  first | refine condD rfl (fun h0 => ?_) (fun h0 => ?_) | refine cond rfl (fun h0 => ?_) (fun h0 => ?_)
  · have ek : c.kind = 1 := h0
    refine seq (sg (mv rfl (co (Ev.geq_i (.t rfl) (.c (v := I 0) rfl)) ?_)))
    refine mv rfl (cg rfl rfl (fA 1 (.t rfl)) ?_)
    refine cg rfl rfl (Ev.ldv ty3 (.g rfl id) SChange.l_port) ?_
    refine cg rfl rfl (Ev.lss_i (.g rfl id) (.c (v := I 0) rfl)) ?_
    refine co (Ev.pkO (.t rfl) rfl) ?_
    refine mv rfl (cg rfl rfl (fA 1 (.t rfl)) ?_)
    refine cg rfl rfl (Ev.ldv ty3 (.g rfl id) SChange.l_port) ?_
    refine cg rfl rfl (Ev.gtr_i (.g rfl id) (.c (v := I 255) rfl)) ?_
    refine co (Ev.pkO (.t rfl) rfl) ?_
    refine nP ?_
    first | refine condD rfl (fun h1 => ?_) (fun h1 => ?_) | refine cond rfl (fun h1 => ?_) (fun h1 => ?_)
    · have hbad : addBad l c = true := by unfold addBad; exact h1
      refine sg (co (Ev.assign (.c (v := .bool false) rfl)) ?_)
      refine nP (ret (pR (bR (pR (done rfl (.tmp rfl .nil) (fun w I => ?_))))))
      have eL : changeL l c rl = l := by unfold changeL; rw [ek, if_pos rfl, if_pos hbad]
      have eD : changeD d c = d := by unfold changeD; rw [ek, if_neg (by decide)]
      have eB : changeB l c = false := by unfold changeB; rw [ek, if_pos rfl]; rw [hbad]; rfl
      refine retR (n := 185) (r' := fun x2 => CR b x2 (changeL l c rl) (changeD d c)) (⟨x.o1, x.o2, x.o3, x.o4, x.o5⟩ : CB) trivial (by rw [eB]; rfl) (List.mem_singleton_self _) w ?_
      rw [eL, eD]
      exact WInv.seps _ _ [] (I.subP (by repeat first | exact SubP.nil | refine SubP.cons zr ?_))
    · have hok : ¬ addBad l c = true := fun e => Bool.false_ne_true ((show addBad l c = false from h1).symm.trans e)
      refine skip (pN (seq (draw' zk ?_)))
      refine tk 0 rfl (Ev.move (.t rfl)) ?_
      refine tk 1 rfl (Ev.nilCheck (.t rfl)) ?_
      refine tk 2 rfl (fA 0 (.t rfl)) ?_
      refine tk 3 rfl (Ev.to (v' := x.o1.v) (Ev.ldv ty22 (.t rfl) SConf.l_ports) (rfl)) ?_
      refine tk 4 rfl (fA 1 (.t rfl)) ?_
      refine tk 5 rfl (Ev.ldv ty3 (.t rfl) SChange.l_port) ?_
      refine al1 6 rfl ((callv en135 (.cons (.t rfl) (.cons (.t rfl) .nil)) (fun w I => search_ok _ l.ps _ w (io w I) hs (by omega)) ?_))
      refine hdn (tk 7 rfl (Ev.move (.t rfl)) ?_)
      refine tk 8 rfl (Ev.extract (.t rfl) rfl) ?_
      refine tk 9 rfl (Ev.extract (.t rfl) rfl) ?_
      refine tk 10 rfl (Ev.assign (.t rfl)) ?_
      refine tk 11 rfl (Ev.assign (.t rfl)) ?_
      refine ovr (pN (draw [Var b1 eChange c 61, OwnS x.o2.v eRoute l.rs 52, OwnS x.o3.v eRule l.us 76, OwnS x.o4.v eMeterConf l.ms 57, OwnS x.o5.v eMirrorConf l.xs 59] zk ?_))
      refine tk 0 rfl (Ev.move (.t rfl)) ?_
      refine tk 1 rfl (Ev.move (.t rfl)) ?_
      refine tk 2 rfl (Ev.nilCheck (.t rfl)) ?_
      refine tk 3 rfl (fA 0 (.t rfl)) ?_
      refine tk 5 rfl (Ev.move (.t rfl)) ?_
      refine tk 6 rfl (fA 1 (.t rfl)) ?_
      refine tk 7 rfl (Ev.ldv ty3 (.t rfl) SChange.l_port) ?_
      refine all [4, 8] zk (by decide) (.cons rfl ?_ (.cons rfl ?_ .nil))
      · refine (opv (Ev.to (v' := x.o1.v) (Ev.ldv ty22 (.t rfl) SConf.l_ports) (rfl)) ?_)
        refine hdn (al1 8 rfl ((buildSlice (E := iE) Tryz.underlying22 ty3 z3 (.cons (.t rfl) .nil) rfl rfl (fun v2 => ?_))))
        refine hdn (al1 9 rfl ((callr (X := OV) (r := OwnS x.o1.v iE l.ps 3) (r' := fun n1 => OwnS n1.v iE (insL l.ps (lowB l.ps c.port) c.port) 3) (fun _ => True) (fun n1 => n1.v) (fun _ => zu) zm en136 (.cons (.t rfl) (.cons (.t rfl) (.cons (.t rfl) .nil))) (fun w I => insert_ok x.o1 v2 l.ps (lowB l.ps c.port) c.port w (am w I) (am w I) (I.disj zr zr) (lowB_le _ _) (by omega)) (fun n1 _ => ?_))))
        refine hdn (tk 10 rfl (Ev.nilCheck (.t rfl)) ?_)
        refine tk 11 rfl (fA 0 (.t rfl)) ?_
        refine al1 12 rfl ((stv ty22 SConf.l_ports (.t rfl) (.t rfl) ?_))
        refine hdn (ovr (bN (pN (sg (mv rfl (asn rfl (nP (ret (done rfl (.tmp rfl .nil) (fun w I => ?_))))))))))
        have eL : changeL l c rl = { l with ps := insL l.ps (lowB l.ps c.port) c.port } := by unfold changeL; rw [ek, if_pos rfl, if_neg hok]
        have eD : changeD d c = d := by unfold changeD; rw [ek, if_neg (by decide)]
        have eB : changeB l c = true := by unfold changeB; rw [ek, if_pos rfl]; rw [eq_false_of_ne_true hok]; rfl
        refine retR (n := 185) (r' := fun x2 => CR b x2 (changeL l c rl) (changeD d c)) (⟨n1, x.o2, x.o3, x.o4, x.o5⟩ : CB) trivial (by rw [eB]; rfl) (List.mem_singleton_self _) w ?_
        rw [eL, eD]
        exact WInv.seps _ _ [] (I.subP (by repeat first | exact SubP.nil | refine SubP.cons zr ?_))
      · refine (buildSlice (E := iE) Tryz.underlying22 ty3 z3 (.cons (.t rfl) .nil) rfl rfl (fun v3 => ?_))
        refine hdn (al1 4 rfl ((opv (Ev.to (v' := x.o1.v) (Ev.ldv ty22 (.t rfl) SConf.l_ports) (rfl)) ?_)))
        refine hdn (al1 9 rfl ((callr (X := OV) (r := OwnS x.o1.v iE l.ps 3) (r' := fun n1 => OwnS n1.v iE (insL l.ps (lowB l.ps c.port) c.port) 3) (fun _ => True) (fun n1 => n1.v) (fun _ => zu) zm en136 (.cons (.t rfl) (.cons (.t rfl) (.cons (.t rfl) .nil))) (fun w I => insert_ok x.o1 v3 l.ps (lowB l.ps c.port) c.port w (am w I) (am w I) (I.disj zr zr) (lowB_le _ _) (by omega)) (fun n1 _ => ?_))))
        refine hdn (tk 10 rfl (Ev.nilCheck (.t rfl)) ?_)
        refine tk 11 rfl (fA 0 (.t rfl)) ?_
        refine al1 12 rfl ((stv ty22 SConf.l_ports (.t rfl) (.t rfl) ?_))
        refine hdn (ovr (bN (pN (sg (mv rfl (asn rfl (nP (ret (done rfl (.tmp rfl .nil) (fun w I => ?_))))))))))
        have eL : changeL l c rl = { l with ps := insL l.ps (lowB l.ps c.port) c.port } := by unfold changeL; rw [ek, if_pos rfl, if_neg hok]
        have eD : changeD d c = d := by unfold changeD; rw [ek, if_neg (by decide)]
        have eB : changeB l c = true := by unfold changeB; rw [ek, if_pos rfl]; rw [eq_false_of_ne_true hok]; rfl
        refine retR (n := 185) (r' := fun x2 => CR b x2 (changeL l c rl) (changeD d c)) (⟨n1, x.o2, x.o3, x.o4, x.o5⟩ : CB) trivial (by rw [eB]; rfl) (List.mem_singleton_self _) w ?_
        rw [eL, eD]
        exact WInv.seps _ _ [] (I.subP (by repeat first | exact SubP.nil | refine SubP.cons zr ?_))
  · have n1 : ¬ c.kind = 1 := h0
    refine sg (co (Ev.eql_i (.t rfl) (.c (v := I 2) rfl)) ?_)
    refine asn rfl (nP ?_)
    first | refine condD rfl (fun h2 => ?_) (fun h2 => ?_) | refine cond rfl (fun h2 => ?_) (fun h2 => ?_)
    · have ek : c.kind = 2 := h2
      refine region (mv rfl (mv rfl (co (Ev.nilCheck (.t rfl)) ?_)))
      refine co (fA 0 (.t rfl)) ?_
      refine co (Ev.to (v' := x.o1.v) (Ev.ldv ty22 (.t rfl) SConf.l_ports) (rfl)) ?_
      refine mv rfl (cons (callr (X := OV) (r := OwnS x.o1.v iE l.ps 3) (r' := fun n1 => OwnS n1.v iE (cutI l.ps (iP l c)) 3) (fun _ => True) (fun n1 => .tuple #[n1.v, .bool (decide (¬ iP l c < 0))]) (fun _ => zu) zm en137 (.cons (.t rfl) (.cons (.t rfl) .nil)) (fun w I => cut_3 x.o1 l.ps (iP l c) w (am w I) (by have := idxF_lt (fun y => decide (c.port = y)) l.ps; have h2 : iP l c = idxF (fun y => decide (c.port = y)) l.ps := rfl; omega)) (fun n1 _ => ?_)))
      refine mv rfl (co (Ev.extract (.t rfl) rfl) (co (Ev.extract (.t rfl) rfl) (co (Ev.nilCheck (.t rfl)) ?_)))
      refine co (fA 0 (.t rfl)) ?_
      refine cons (stv ty22 SConf.l_ports (.t rfl) (.t rfl) ?_)
      refine asn rfl (nil (bN (pN (sg (mv rfl (asn rfl (nP (ret (done rfl (.tmp rfl .nil) (fun w I => ?_))))))))))
      have eL : changeL l c rl = { l with ps := cutI l.ps (iP l c) } := by unfold changeL; rw [ek, if_neg (by decide), if_pos rfl]
      have eD : changeD d c = d := by unfold changeD; rw [ek, if_neg (by decide)]
      have eB : changeB l c = decide (¬ iP l c < 0) := by unfold changeB; rw [ek, if_neg (by decide), if_pos rfl]
      refine retR (n := 185) (r' := fun x2 => CR b x2 (changeL l c rl) (changeD d c)) (⟨n1, x.o2, x.o3, x.o4, x.o5⟩ : CB) trivial (by rw [eB]; rfl) (List.mem_singleton_self _) w ?_
      rw [eL, eD]
      exact WInv.seps _ _ [] (I.subP (by repeat first | exact SubP.nil | refine SubP.cons zr ?_))
    · have n2 : ¬ c.kind = 2 := h2
      refine sg (co (Ev.eql_i (.t rfl) (.c (v := I 3) rfl)) ?_)
      refine asn rfl (nP ?_)
      first | refine condD rfl (fun h3 => ?_) (fun h3 => ?_) | refine cond rfl (fun h3 => ?_) (fun h3 => ?_)
      · have ek : c.kind = 3 := h3
        refine draw [Var b1 eChange c 61, OwnS x.o1.v iE l.ps 3, OwnS x.o3.v eRule l.us 76, OwnS x.o4.v eMeterConf l.ms 57, OwnS x.o5.v eMirrorConf l.xs 59] zk ?_
        refine tk 0 rfl (Ev.move (.t rfl)) ?_
        refine tk 1 rfl (Ev.move (.t rfl)) ?_
        refine tk 2 rfl (Ev.nilCheck (.t rfl)) ?_
        refine tk 3 rfl (fA 1 (.t rfl)) ?_
        refine tk 5 rfl (Ev.move (.t rfl)) ?_
        refine tk 6 rfl (fA 2 (.t rfl)) ?_
        refine tk 7 rfl (Ev.ldv ty52 (.t rfl) SChange.l_route) ?_
        refine al1 4 rfl ((opv (Ev.to (v' := x.o2.v) (Ev.ldv ty23 (.t rfl) SConf.l_routes) (rfl)) ?_))
        refine hdn (al1 8 rfl ((callr (X := OV) (r := OwnS x.o2.v eRoute l.rs 52) (r' := fun n1 => OwnS n1.v eRoute (setL l.rs (iR l c) c.route) 52) (fun _ => True) (fun n1 => n1.v) (fun _ => zu) zm en138 (.cons (.t rfl) (.cons (.t rfl) (.cons (.t rfl) .nil))) (fun w I => set_52 x.o2 l.rs (iR l c) c.route w (am w I) (by omega) (by have := idxF_lt (fun r => SPrefix.eqb r.to_ c.route.to_) l.rs; have h2 : iR l c = idxF (fun r => SPrefix.eqb r.to_ c.route.to_) l.rs := rfl; omega)) (fun n1 _ => ?_))))
        refine hdn (tk 9 rfl (Ev.nilCheck (.t rfl)) ?_)
        refine tk 10 rfl (fA 1 (.t rfl)) ?_
        refine al1 11 rfl ((stv ty23 SConf.l_routes (.t rfl) (.t rfl) ?_))
        refine hdn (ovr (bN (pN (sg (mv rfl (asn rfl (nP (ret (done rfl (.tmp rfl .nil) (fun w I => ?_))))))))))
        have eL : changeL l c rl = { l with rs := setL l.rs (iR l c) c.route } := by unfold changeL; rw [ek, if_neg (by decide), if_neg (by decide), if_pos rfl]
        have eD : changeD d c = d := by unfold changeD; rw [ek, if_neg (by decide)]
        have eB : changeB l c = true := by unfold changeB; rw [ek, if_neg (by decide), if_neg (by decide), if_pos rfl]
        refine retR (n := 185) (r' := fun x2 => CR b x2 (changeL l c rl) (changeD d c)) (⟨x.o1, n1, x.o3, x.o4, x.o5⟩ : CB) trivial (by rw [eB]; rfl) (List.mem_singleton_self _) w ?_
        rw [eL, eD]
        exact WInv.seps _ _ [] (I.subP (by repeat first | exact SubP.nil | refine SubP.cons zr ?_))
      · have n3 : ¬ c.kind = 3 := h3
        refine sg (co (Ev.eql_i (.t rfl) (.c (v := I 4) rfl)) ?_)
        refine asn rfl (nP ?_)
        first | refine condD rfl (fun h4 => ?_) (fun h4 => ?_) | refine cond rfl (fun h4 => ?_) (fun h4 => ?_)
        · have ek : c.kind = 4 := h4
          refine region (mv rfl (mv rfl (co (Ev.nilCheck (.t rfl)) ?_)))
          refine co (fA 1 (.t rfl)) ?_
          refine co (Ev.to (v' := x.o2.v) (Ev.ldv ty23 (.t rfl) SConf.l_routes) (rfl)) ?_
          refine mv rfl (cons (callr (X := OV) (r := OwnS x.o2.v eRoute l.rs 52) (r' := fun n1 => OwnS n1.v eRoute (cutI l.rs (iR l c)) 52) (fun _ => True) (fun n1 => .tuple #[n1.v, .bool (decide (¬ iR l c < 0))]) (fun _ => zu) zm en139 (.cons (.t rfl) (.cons (.t rfl) .nil)) (fun w I => cut_52 x.o2 l.rs (iR l c) w (am w I) (by have := idxF_lt (fun r => SPrefix.eqb r.to_ c.route.to_) l.rs; have h2 : iR l c = idxF (fun r => SPrefix.eqb r.to_ c.route.to_) l.rs := rfl; omega)) (fun n1 _ => ?_)))
          refine mv rfl (co (Ev.extract (.t rfl) rfl) (co (Ev.extract (.t rfl) rfl) (co (Ev.nilCheck (.t rfl)) ?_)))
          refine co (fA 1 (.t rfl)) ?_
          refine cons (stv ty23 SConf.l_routes (.t rfl) (.t rfl) ?_)
          refine asn rfl (nil (bN (pN (sg (mv rfl (asn rfl (nP (ret (done rfl (.tmp rfl .nil) (fun w I => ?_))))))))))
          have eL : changeL l c rl = { l with rs := cutI l.rs (iR l c) } := by unfold changeL; rw [ek, if_neg (by decide), if_neg (by decide), if_neg (by decide), if_pos rfl]
          have eD : changeD d c = d := by unfold changeD; rw [ek, if_neg (by decide)]
          have eB : changeB l c = decide (¬ iR l c < 0) := by unfold changeB; rw [ek, if_neg (by decide), if_neg (by decide), if_neg (by decide), if_pos rfl]
          refine retR (n := 185) (r' := fun x2 => CR b x2 (changeL l c rl) (changeD d c)) (⟨x.o1, n1, x.o3, x.o4, x.o5⟩ : CB) trivial (by rw [eB]; rfl) (List.mem_singleton_self _) w ?_
          rw [eL, eD]
          exact WInv.seps _ _ [] (I.subP (by repeat first | exact SubP.nil | refine SubP.cons zr ?_))
        · have n4 : ¬ c.kind = 4 := h4
          refine sg (co (Ev.eql_i (.t rfl) (.c (v := I 5) rfl)) ?_)
          refine asn rfl (nP ?_)
          first | refine condD rfl (fun h5 => ?_) (fun h5 => ?_) | refine cond rfl (fun h5 => ?_) (fun h5 => ?_)
          · have ek : c.kind = 5 := h5
            refine draw [Var b1 eChange c 61, OwnS x.o1.v iE l.ps 3, OwnS x.o2.v eRoute l.rs 52, OwnS x.o3.v eRule l.us 76, OwnS x.o5.v eMirrorConf l.xs 59] zk ?_
            refine tk 0 rfl (Ev.move (.t rfl)) ?_
            refine tk 1 rfl (Ev.move (.t rfl)) ?_
            refine tk 2 rfl (Ev.nilCheck (.t rfl)) ?_
            refine tk 3 rfl (fA 3 (.t rfl)) ?_
            refine tk 5 rfl (Ev.move (.t rfl)) ?_
            refine tk 6 rfl (fA 21 (.t rfl)) ?_
            refine tk 7 rfl (Ev.ldv ty57 (.t rfl) SChange.l_meter) ?_
            refine al1 4 rfl ((opv (Ev.to (v' := x.o4.v) (Ev.ldv ty25 (.t rfl) SConf.l_meters) (rfl)) ?_))
            refine hdn (al1 8 rfl ((callr (X := OV) (r := OwnS x.o4.v eMeterConf l.ms 57) (r' := fun n1 => OwnS n1.v eMeterConf (setL l.ms (iM l c) c.meter) 57) (fun _ => True) (fun n1 => n1.v) (fun _ => zu) zm en140 (.cons (.t rfl) (.cons (.t rfl) (.cons (.t rfl) .nil))) (fun w I => set_57 x.o4 l.ms (iM l c) c.meter w (am w I) (by omega) (by have := idxF_lt (fun r => decide (r.name = c.meter.name)) l.ms; have h2 : iM l c = idxF (fun r => decide (r.name = c.meter.name)) l.ms := rfl; omega)) (fun n1 _ => ?_))))
            refine hdn (tk 9 rfl (Ev.nilCheck (.t rfl)) ?_)
            refine tk 10 rfl (fA 3 (.t rfl)) ?_
            refine al1 11 rfl ((stv ty25 SConf.l_meters (.t rfl) (.t rfl) ?_))
            refine hdn (ovr (bN (pN (sg (mv rfl (asn rfl (nP (ret (done rfl (.tmp rfl .nil) (fun w I => ?_))))))))))
            have eL : changeL l c rl = { l with ms := setL l.ms (iM l c) c.meter } := by unfold changeL; rw [ek, if_neg (by decide), if_neg (by decide), if_neg (by decide), if_neg (by decide), if_pos rfl]
            have eD : changeD d c = d := by unfold changeD; rw [ek, if_neg (by decide)]
            have eB : changeB l c = true := by unfold changeB; rw [ek, if_neg (by decide), if_neg (by decide), if_neg (by decide), if_neg (by decide), if_pos rfl]
            refine retR (n := 185) (r' := fun x2 => CR b x2 (changeL l c rl) (changeD d c)) (⟨x.o1, x.o2, x.o3, n1, x.o5⟩ : CB) trivial (by rw [eB]; rfl) (List.mem_singleton_self _) w ?_
            rw [eL, eD]
            exact WInv.seps _ _ [] (I.subP (by repeat first | exact SubP.nil | refine SubP.cons zr ?_))
          · have n5 : ¬ c.kind = 5 := h5
            refine sg (co (Ev.eql_i (.t rfl) (.c (v := I 6) rfl)) ?_)
            refine asn rfl (nP ?_)
            first | refine condD rfl (fun h6 => ?_) (fun h6 => ?_) | refine cond rfl (fun h6 => ?_) (fun h6 => ?_)
            · have ek : c.kind = 6 := h6
              refine region (mv rfl (mv rfl (co (Ev.nilCheck (.t rfl)) ?_)))
              refine co (fA 3 (.t rfl)) ?_
              refine co (Ev.to (v' := x.o4.v) (Ev.ldv ty25 (.t rfl) SConf.l_meters) (rfl)) ?_
              refine mv rfl (cons (callr (X := OV) (r := OwnS x.o4.v eMeterConf l.ms 57) (r' := fun n1 => OwnS n1.v eMeterConf (cutI l.ms (iM l c)) 57) (fun _ => True) (fun n1 => .tuple #[n1.v, .bool (decide (¬ iM l c < 0))]) (fun _ => zu) zm en141 (.cons (.t rfl) (.cons (.t rfl) .nil)) (fun w I => cut_57 x.o4 l.ms (iM l c) w (am w I) (by have := idxF_lt (fun r => decide (r.name = c.meter.name)) l.ms; have h2 : iM l c = idxF (fun r => decide (r.name = c.meter.name)) l.ms := rfl; omega)) (fun n1 _ => ?_)))
              refine mv rfl (co (Ev.extract (.t rfl) rfl) (co (Ev.extract (.t rfl) rfl) (co (Ev.nilCheck (.t rfl)) ?_)))
              refine co (fA 3 (.t rfl)) ?_
              refine cons (stv ty25 SConf.l_meters (.t rfl) (.t rfl) ?_)
              refine asn rfl (nil (bN (pN (sg (mv rfl (asn rfl (nP (ret (done rfl (.tmp rfl .nil) (fun w I => ?_))))))))))
              have eL : changeL l c rl = { l with ms := cutI l.ms (iM l c) } := by unfold changeL; rw [ek, if_neg (by decide), if_neg (by decide), if_neg (by decide), if_neg (by decide), if_neg (by decide), if_pos rfl]
              have eD : changeD d c = d := by unfold changeD; rw [ek, if_neg (by decide)]
              have eB : changeB l c = decide (¬ iM l c < 0) := by unfold changeB; rw [ek, if_neg (by decide), if_neg (by decide), if_neg (by decide), if_neg (by decide), if_neg (by decide), if_pos rfl]
              refine retR (n := 185) (r' := fun x2 => CR b x2 (changeL l c rl) (changeD d c)) (⟨x.o1, x.o2, x.o3, n1, x.o5⟩ : CB) trivial (by rw [eB]; rfl) (List.mem_singleton_self _) w ?_
              rw [eL, eD]
              exact WInv.seps _ _ [] (I.subP (by repeat first | exact SubP.nil | refine SubP.cons zr ?_))
            · have n6 : ¬ c.kind = 6 := h6
              refine sg (co (Ev.eql_i (.t rfl) (.c (v := I 7) rfl)) ?_)
              refine asn rfl (nP ?_)
              first | refine condD rfl (fun h7 => ?_) (fun h7 => ?_) | refine cond rfl (fun h7 => ?_) (fun h7 => ?_)
              · have ek : c.kind = 7 := h7
                refine draw [Var b1 eChange c 61, OwnS x.o1.v iE l.ps 3, OwnS x.o2.v eRoute l.rs 52, OwnS x.o3.v eRule l.us 76, OwnS x.o4.v eMeterConf l.ms 57] zk ?_
                refine tk 0 rfl (Ev.move (.t rfl)) ?_
                refine tk 1 rfl (Ev.move (.t rfl)) ?_
                refine tk 2 rfl (Ev.nilCheck (.t rfl)) ?_
                refine tk 3 rfl (fA 4 (.t rfl)) ?_
                refine tk 5 rfl (Ev.move (.t rfl)) ?_
                refine tk 6 rfl (fA 25 (.t rfl)) ?_
                refine tk 7 rfl (Ev.ldv ty59 (.t rfl) SChange.l_mirror) ?_
                refine al1 4 rfl ((opv (Ev.to (v' := x.o5.v) (Ev.ldv ty26 (.t rfl) SConf.l_mirrors) (rfl)) ?_))
                refine hdn (al1 8 rfl ((callr (X := OV) (r := OwnS x.o5.v eMirrorConf l.xs 59) (r' := fun n1 => OwnS n1.v eMirrorConf (setL l.xs (iX l c) c.mirror) 59) (fun _ => True) (fun n1 => n1.v) (fun _ => zu) zm en142 (.cons (.t rfl) (.cons (.t rfl) (.cons (.t rfl) .nil))) (fun w I => set_59 x.o5 l.xs (iX l c) c.mirror w (am w I) (by omega) (by have := idxF_lt (fun r => decide (r.name = c.mirror.name)) l.xs; have h2 : iX l c = idxF (fun r => decide (r.name = c.mirror.name)) l.xs := rfl; omega)) (fun n1 _ => ?_))))
                refine hdn (tk 9 rfl (Ev.nilCheck (.t rfl)) ?_)
                refine tk 10 rfl (fA 4 (.t rfl)) ?_
                refine al1 11 rfl ((stv ty26 SConf.l_mirrors (.t rfl) (.t rfl) ?_))
                refine hdn (ovr (bN (pN (sg (mv rfl (asn rfl (nP (ret (done rfl (.tmp rfl .nil) (fun w I => ?_))))))))))
                have eL : changeL l c rl = { l with xs := setL l.xs (iX l c) c.mirror } := by unfold changeL; rw [ek, if_neg (by decide), if_neg (by decide), if_neg (by decide), if_neg (by decide), if_neg (by decide), if_neg (by decide), if_pos rfl]
                have eD : changeD d c = d := by unfold changeD; rw [ek, if_neg (by decide)]
                have eB : changeB l c = true := by unfold changeB; rw [ek, if_neg (by decide), if_neg (by decide), if_neg (by decide), if_neg (by decide), if_neg (by decide), if_neg (by decide), if_pos rfl]
                refine retR (n := 185) (r' := fun x2 => CR b x2 (changeL l c rl) (changeD d c)) (⟨x.o1, x.o2, x.o3, x.o4, n1⟩ : CB) trivial (by rw [eB]; rfl) (List.mem_singleton_self _) w ?_
                rw [eL, eD]
                exact WInv.seps _ _ [] (I.subP (by repeat first | exact SubP.nil | refine SubP.cons zr ?_))
              · have n7 : ¬ c.kind = 7 := h7
                refine sg (co (Ev.eql_i (.t rfl) (.c (v := I 8) rfl)) ?_)
                refine asn rfl (nP ?_)
                first | refine condD rfl (fun h8 => ?_) (fun h8 => ?_) | refine cond rfl (fun h8 => ?_) (fun h8 => ?_)
                · have ek : c.kind = 8 := h8
                  refine region (mv rfl (mv rfl (co (Ev.nilCheck (.t rfl)) ?_)))
                  refine co (fA 4 (.t rfl)) ?_
                  refine co (Ev.to (v' := x.o5.v) (Ev.ldv ty26 (.t rfl) SConf.l_mirrors) (rfl)) ?_
                  refine mv rfl (cons (callr (X := OV) (r := OwnS x.o5.v eMirrorConf l.xs 59) (r' := fun n1 => OwnS n1.v eMirrorConf (cutI l.xs (iX l c)) 59) (fun _ => True) (fun n1 => .tuple #[n1.v, .bool (decide (¬ iX l c < 0))]) (fun _ => zu) zm en143 (.cons (.t rfl) (.cons (.t rfl) .nil)) (fun w I => cut_59 x.o5 l.xs (iX l c) w (am w I) (by have := idxF_lt (fun r => decide (r.name = c.mirror.name)) l.xs; have h2 : iX l c = idxF (fun r => decide (r.name = c.mirror.name)) l.xs := rfl; omega)) (fun n1 _ => ?_)))
                  refine mv rfl (co (Ev.extract (.t rfl) rfl) (co (Ev.extract (.t rfl) rfl) (co (Ev.nilCheck (.t rfl)) ?_)))
                  refine co (fA 4 (.t rfl)) ?_
                  refine cons (stv ty26 SConf.l_mirrors (.t rfl) (.t rfl) ?_)
                  refine asn rfl (nil (bN (pN (sg (mv rfl (asn rfl (nP (ret (done rfl (.tmp rfl .nil) (fun w I => ?_))))))))))
                  have eL : changeL l c rl = { l with xs := cutI l.xs (iX l c) } := by unfold changeL; rw [ek, if_neg (by decide), if_neg (by decide), if_neg (by decide), if_neg (by decide), if_neg (by decide), if_neg (by decide), if_neg (by decide), if_pos rfl]
                  have eD : changeD d c = d := by unfold changeD; rw [ek, if_neg (by decide)]
                  have eB : changeB l c = decide (¬ iX l c < 0) := by unfold changeB; rw [ek, if_neg (by decide), if_neg (by decide), if_neg (by decide), if_neg (by decide), if_neg (by decide), if_neg (by decide), if_neg (by decide), if_pos rfl]
                  refine retR (n := 185) (r' := fun x2 => CR b x2 (changeL l c rl) (changeD d c)) (⟨x.o1, x.o2, x.o3, x.o4, n1⟩ : CB) trivial (by rw [eB]; rfl) (List.mem_singleton_self _) w ?_
                  rw [eL, eD]
                  exact WInv.seps _ _ [] (I.subP (by repeat first | exact SubP.nil | refine SubP.cons zr ?_))
                · have n8 : ¬ c.kind = 8 := h8
                  refine sg (co (Ev.eql_i (.t rfl) (.c (v := I 9) rfl)) ?_)
                  refine asn rfl (nP ?_)
                  first | refine condD rfl (fun h9 => ?_) (fun h9 => ?_) | refine cond rfl (fun h9 => ?_) (fun h9 => ?_)
                  · have ek : c.kind = 9 := h9
                    refine region (mv rfl (co (fA 28 (.t rfl)) ?_))
                    refine co (Ev.ldv ty24 (.t rfl) SChange.l_rules) ?_
                    refine cons (callo en50 (.cons (.t rfl) .nil) (fun w I => clone_76 _ rl w (hr w I.keeps) hrl) (fun n1 => ?_))
                    refine co (Ev.nilCheck (.t rfl)) ?_
                    refine co (fA 2 (.t rfl)) ?_
                    refine cons (stv ty24 SConf.l_rules (.t rfl) (.t rfl) ?_)
                    refine nil (bN (pN (sg (mv rfl (asn rfl (nP (ret (done rfl (.tmp rfl .nil) (fun w I => ?_)))))))))
                    have eL : changeL l c rl = { l with us := rl } := by unfold changeL; rw [ek, if_neg (by decide), if_neg (by decide), if_neg (by decide), if_neg (by decide), if_neg (by decide), if_neg (by decide), if_neg (by decide), if_neg (by decide), if_pos rfl]
                    have eD : changeD d c = d := by unfold changeD; rw [ek, if_neg (by decide)]
                    have eB : changeB l c = true := by unfold changeB; rw [ek, if_neg (by decide), if_neg (by decide), if_neg (by decide), if_neg (by decide), if_neg (by decide), if_neg (by decide), if_neg (by decide), if_neg (by decide), if_pos rfl]
                    refine retR (n := 185) (r' := fun x2 => CR b x2 (changeL l c rl) (changeD d c)) (⟨x.o1, x.o2, n1, x.o4, x.o5⟩ : CB) trivial (by rw [eB]; rfl) (List.mem_singleton_self _) w ?_
                    rw [eL, eD]
                    exact WInv.seps _ _ [] (I.subP (by repeat first | exact SubP.nil | refine SubP.cons zr ?_))
                  · have n9 : ¬ c.kind = 9 := h9
                    refine sg (co (Ev.eql_i (.t rfl) (.c (v := I 10) rfl)) ?_)
                    refine asn rfl (nP ?_)
                    first | refine condD rfl (fun h10 => ?_) (fun h10 => ?_) | refine cond rfl (fun h10 => ?_) (fun h10 => ?_)
                    · have ek : c.kind = 10 := h10
                      refine region (mv rfl (co (fA 29 (.t rfl)) ?_))
                      refine co (Ev.ldv ty3 (.t rfl) SChange.l_default) ?_
                      refine co (Ev.nilCheck (.t rfl)) ?_
                      refine co (fA 5 (.t rfl)) ?_
                      refine cons (stv ty3 SConf.l_default (.t rfl) (.t rfl) ?_)
                      refine nil (bN (pN (sg (mv rfl (asn rfl (nP (ret (done rfl (.tmp rfl .nil) (fun w I => ?_)))))))))
                      have eL : changeL l c rl = l := by unfold changeL; rw [ek, if_neg (by decide), if_neg (by decide), if_neg (by decide), if_neg (by decide), if_neg (by decide), if_neg (by decide), if_neg (by decide), if_neg (by decide), if_neg (by decide)]
                      have eD : changeD d c = c.default := by unfold changeD; rw [ek, if_pos rfl]
                      have eB : changeB l c = true := by unfold changeB; rw [ek, if_neg (by decide), if_neg (by decide), if_neg (by decide), if_neg (by decide), if_neg (by decide), if_neg (by decide), if_neg (by decide), if_neg (by decide), if_neg (by decide)]; rfl
                      refine retR (n := 185) (r' := fun x2 => CR b x2 (changeL l c rl) (changeD d c)) (⟨x.o1, x.o2, x.o3, x.o4, x.o5⟩ : CB) trivial (by rw [eB]; rfl) (List.mem_singleton_self _) w ?_
                      rw [eL, eD]
                      exact WInv.seps _ _ [] (I.subP (by repeat first | exact SubP.nil | refine SubP.cons zr ?_))
                    · have n10 : ¬ c.kind = 10 := h10
                      refine sg (co (Ev.assign (.c (v := .bool false) rfl)) ?_)
                      refine nP (ret (bR (pR (done rfl (.tmp rfl .nil) (fun w I => ?_)))))
                      have eL : changeL l c rl = l := by unfold changeL; rw [if_neg n1, if_neg n2, if_neg n3, if_neg n4, if_neg n5, if_neg n6, if_neg n7, if_neg n8, if_neg n9]
                      have eD : changeD d c = d := by unfold changeD; rw [if_neg n10]
                      have eB : changeB l c = false := by unfold changeB; rw [if_neg n1, if_neg n2, if_neg n3, if_neg n4, if_neg n5, if_neg n6, if_neg n7, if_neg n8, if_neg n9]; exact decide_eq_false n10
                      refine retR (n := 185) (r' := fun x2 => CR b x2 (changeL l c rl) (changeD d c)) (⟨x.o1, x.o2, x.o3, x.o4, x.o5⟩ : CB) trivial (by rw [eB]; rfl) (List.mem_singleton_self _) w ?_
                      rw [eL, eD]
                      exact WInv.seps _ _ [] (I.subP (by repeat first | exact SubP.nil | refine SubP.cons zr ?_))
theorem co5 {K : Ctx} {L : List Res} {x : CB} {l : CL} {d : Int} (w : World) (I : WInv K L w) (h0 : OwnS x.o1.v iE l.ps 3 ∈ L := by repeat first | exact mH | apply mT | apply mA) (h1 : OwnS x.o2.v eRoute l.rs 52 ∈ L := by repeat first | exact mH | apply mT | apply mA) (h2 : OwnS x.o3.v eRule l.us 76 ∈ L := by repeat first | exact mH | apply mT | apply mA) (h3 : OwnS x.o4.v eMeterConf l.ms 57 ∈ L := by repeat first | exact mH | apply mT | apply mA) (h4 : OwnS x.o5.v eMirrorConf l.xs 59 ∈ L := by repeat first | exact mH | apply mT | apply mA) : ConfAt w (x.c d) l := ⟨isSl_own h0 w I, isSl_own h1 w I, isSl_own h2 w I, isSl_own h3 w I, isSl_own h4 w I⟩
structure CD where
  l : CL
  d : Int
def goN (s : CD) (cs : List SChange) (rls : List (List SRule)) : Nat → Option CD
  | 0 => some s
  | n + 1 => match goN s cs rls n with
    | none => none
    | some t => if changeB t.l (cs.getD n eChange.zero) = true then some ⟨changeL t.l (cs.getD n eChange.zero) (rls.getD n []), changeD t.d (cs.getD n eChange.zero)⟩ else none
def applyC (s : CD) (cs : List SChange) (rls : List (List SRule)) : Int × CD :=
  if mayB s.l s.d = true then (match goN s cs rls cs.length with
    | none => (211, ⟨⟨[], [], [], [], []⟩, 0⟩)
    | some t => if mayB t.l t.d = true then (0, t) else (210, ⟨⟨[], [], [], [], []⟩, 0⟩))
  else (210, ⟨⟨[], [], [], [], []⟩, 0⟩)
theorem goN_none {s : CD} {cs : List SChange} {rls : List (List SRule)} {n : Nat} (h : goN s cs rls n = none) : ∀ m, n ≤ m → goN s cs rls m = none := by
  intro m hm
  induction hm with
  | refl => exact h
  | step _ ih => rw [goN, ih]
structure CL.Way (l : CL) (n : Nat) : Prop where
  up : l.ps.Pairwise (· < ·)
  ps : l.ps.length ≤ 1024 + n
  rs : l.rs.length ≤ 1024 + n
  us : l.us.length * 152 ≤ 140737488355328
  ms : l.ms.length ≤ 1024 + n
  xs : l.xs.length ≤ 1024 + n
  nm : l.Names
theorem setL_mem {α : Type} {l : List α} {i : Int} {x y : α} (h : y ∈ setL l i x) : y ∈ l ∨ y = x := by
  unfold setL at h
  split at h
  · simpa using h
  · exact List.mem_or_eq_of_mem_set h
theorem setL_len {α : Type} (l : List α) (i : Int) (x : α) : (setL l i x).length ≤ l.length + 1 := by
  unfold setL
  split <;> simp
theorem cutI_sub {α : Type} (l : List α) (i : Int) : (cutI l i).Sublist l := by
  unfold cutI cutL
  split
  · exact List.Sublist.refl _
  · have h : (l.take i.toNat ++ l.drop i.toNat).Sublist l := by rw [List.take_append_drop]; exact List.Sublist.refl _
    refine List.Sublist.trans ?_ h
    refine List.Sublist.append (List.Sublist.refl _) ?_
    have e : (i + 1).toNat = i.toNat + ((i + 1).toNat - i.toNat) := by omega
    rw [e, ← List.drop_drop]
    exact List.drop_sublist _ _
theorem idxF_neg {α : Type} {p : α → Bool} {l : List α} (h : idxF p l < 0) : ∀ x ∈ l, p x = false := by
  unfold idxF at h
  cases e : l.findIdx? p with
  | none => exact List.findIdx?_eq_none_iff.1 e
  | some i => rw [e] at h; simp only at h; omega
theorem low_split {a : Int} : ∀ {l : List Int}, l.Pairwise (· < ·) → (∀ y ∈ l.take (l.countP (fun y => decide (y < a))), y < a) ∧ (∀ y ∈ l.drop (l.countP (fun y => decide (y < a))), ¬ y < a)
  | [], _ => by simp
  | y :: l, hs => by
    obtain ⟨h1, h2⟩ := List.pairwise_cons.1 hs
    obtain ⟨ih1, ih2⟩ := low_split h2
    by_cases hy : y < a
    · rw [List.countP_cons_of_pos (p := fun y => decide (y < a)) (by simpa using hy)]
      refine ⟨fun z hz => ?_, fun z hz => ?_⟩
      · rw [List.take_succ_cons] at hz
        rcases List.mem_cons.1 hz with rfl | h
        · exact hy
        · exact ih1 z h
      · rw [List.drop_succ_cons] at hz
        exact ih2 z hz
    · have e : (y :: l).countP (fun y => decide (y < a)) = 0 := by
        rw [List.countP_eq_zero]
        intro z hz
        rcases List.mem_cons.1 hz with rfl | h
        · simpa using hy
        · have := h1 z h
          simp
          omega
      rw [e]
      refine ⟨fun z hz => by simp at hz, fun z hz => ?_⟩
      rcases List.mem_cons.1 hz with rfl | h
      · exact hy
      · have := h1 z h
        omega
theorem low_ins {l : List Int} {a : Int} (hs : l.Pairwise (· < ·)) (hn : ∀ y ∈ l, ¬ a = y) : (insL l (lowB l a) a).Pairwise (· < ·) := by
  obtain ⟨k1, k2⟩ := low_split (a := a) hs
  unfold insL lowB
  rw [Int.toNat_natCast]
  generalize l.countP (fun y => decide (y < a)) = n at *
  have hs2 := hs
  rw [← List.take_append_drop n l, List.pairwise_append] at hs2
  obtain ⟨s1, s2, s3⟩ := hs2
  rw [List.append_assoc, List.pairwise_append]
  refine ⟨s1, ?_, fun x hx y hy => ?_⟩
  · rw [List.singleton_append, List.pairwise_cons]
    refine ⟨fun y hy => ?_, s2⟩
    have := k2 y hy
    have := hn y (List.mem_of_mem_drop hy)
    omega
  · rcases List.mem_append.1 hy with h | h
    · rw [List.mem_singleton.1 h]
      exact k1 x hx
    · exact s3 x hx y h
theorem insL_len (l : List Int) (i a : Int) : (insL l i a).length ≤ l.length + 1 := by
  unfold insL
  simp
  omega
theorem addOk {l : CL} {c : SChange} (h : ¬ addBad l c = true) : ∀ y ∈ l.ps, ¬ c.port = y := by
  unfold addBad at h
  have h1 : iP l c < 0 := by
    simp at h
    omega
  intro y hy
  simpa using idxF_neg h1 y hy
theorem change_way {l : CL} {n : Nat} {c : SChange} {rl : List SRule} (h : l.Way n) (hc : c.meter.name.size ≤ 9223372036854775807 ∧ c.mirror.name.size ≤ 9223372036854775807) (hr : rl.length * 152 ≤ 140737488355328) (hrn : ∀ x ∈ rl, x.name.size ≤ 9223372036854775807) : (changeL l c rl).Way (n + 1) := by
  obtain ⟨h1, h2, h3, h4, h5, h6, h7, h8, h9⟩ := h
  unfold changeL
  split
  · split
    · exact ⟨h1, by omega, by omega, h4, by omega, by omega, h7, h8, h9⟩
    · rename_i hb
      exact ⟨low_ins h1 (addOk hb), by have := insL_len l.ps (lowB l.ps c.port) c.port; show (insL _ _ _).length ≤ _; omega, (by dsimp only; omega), h4, (by dsimp only; omega), (by dsimp only; omega), h7, h8, h9⟩
  split
  · exact ⟨h1.sublist (cutI_sub _ _), by have := (cutI_sub l.ps (iP l c)).length_le; show (cutI _ _).length ≤ _; omega, (by dsimp only; omega), h4, (by dsimp only; omega), (by dsimp only; omega), h7, h8, h9⟩
  split
  · exact ⟨h1, (by dsimp only; omega), by have := setL_len l.rs (iR l c) c.route; show (setL _ _ _).length ≤ _; omega, h4, (by dsimp only; omega), (by dsimp only; omega), h7, h8, h9⟩
  split
  · exact ⟨h1, (by dsimp only; omega), by have := (cutI_sub l.rs (iR l c)).length_le; show (cutI _ _).length ≤ _; omega, h4, (by dsimp only; omega), (by dsimp only; omega), h7, h8, h9⟩
  split
  · exact ⟨h1, (by dsimp only; omega), (by dsimp only; omega), h4, by have := setL_len l.ms (iM l c) c.meter; show (setL _ _ _).length ≤ _; omega, (by dsimp only; omega), h7, fun x hx => (setL_mem hx).elim (h8 x) (fun e => e ▸ hc.1), h9⟩
  split
  · exact ⟨h1, (by dsimp only; omega), (by dsimp only; omega), h4, by have := (cutI_sub l.ms (iM l c)).length_le; show (cutI _ _).length ≤ _; omega, (by dsimp only; omega), h7, fun x hx => h8 x ((cutI_sub _ _).subset hx), h9⟩
  split
  · exact ⟨h1, (by dsimp only; omega), (by dsimp only; omega), h4, (by dsimp only; omega), by have := setL_len l.xs (iX l c) c.mirror; show (setL _ _ _).length ≤ _; omega, h7, h8, fun x hx => (setL_mem hx).elim (h9 x) (fun e => e ▸ hc.2)⟩
  split
  · exact ⟨h1, (by dsimp only; omega), (by dsimp only; omega), h4, (by dsimp only; omega), by have := (cutI_sub l.xs (iX l c)).length_le; show (cutI _ _).length ≤ _; omega, h7, h8, fun x hx => h9 x ((cutI_sub _ _).subset hx)⟩
  split
  · exact ⟨h1, (by dsimp only; omega), (by dsimp only; omega), hr, (by dsimp only; omega), (by dsimp only; omega), hrn, h8, h9⟩
  · exact ⟨h1, by omega, by omega, h4, by omega, by omega, h7, h8, h9⟩
theorem faultsUp_nil {e : Nat → Int} {d : Int} : ∀ {n : Nat}, faultsUp e d n = [] → ∀ i, i < n → e i = 0
  | 0, _, i, hi => absurd hi (Nat.not_lt_zero _)
  | n + 1, h, i, hi => by
    unfold faultsUp at h
    obtain ⟨h1, h2⟩ := List.append_eq_nil_iff.1 h
    by_cases hin : i < n
    · exact faultsUp_nil h1 i hin
    · obtain rfl : i = n := by omega
      by_cases he : e i = 0
      · exact he
      · rw [if_neg he] at h2
        cases h2
theorem listG_ok {e : Nat → Int} {d : Int} {n most : Nat} (h : listG e d n most = []) : ∀ i, i < n → e i = 0 := by
  have hm := listG_nil h
  unfold listG at h
  rw [Nat.min_eq_left hm] at h
  exact faultsUp_nil (List.append_eq_nil_iff.1 h).1
structure CL.Good (l : CL) (d : Int) : Prop where
  ps : ∀ i, i < l.ps.length → portE l.ps (l.ps.getD i iE.zero) i = 0
  rs : ∀ i, i < l.rs.length → routeE l (l.rs.getD i eRoute.zero) i = 0
  us : ∀ i, i < l.us.length → ruleE l (l.us.getD i eRule.zero) i = 0
  ms : ∀ i, i < l.ms.length → meterE l (l.ms.getD i eMeterConf.zero) i = 0
  xs : ∀ i, i < l.xs.length → mirrorE l (l.xs.getD i eMirrorConf.zero) i = 0
  d : defBad d = false
theorem may_good {l : CL} {d : Int} (h : mayB l d = true) : l.Good d := by
  unfold mayB checkF thingsF at h
  have h0 := List.append_eq_nil_iff.1 (of_decide_eq_true h)
  have e5 := List.append_eq_nil_iff.1 h0.1
  have e4 := List.append_eq_nil_iff.1 e5.1
  have e3 := List.append_eq_nil_iff.1 e4.1
  have e2 := List.append_eq_nil_iff.1 e3.1
  have e1 := List.append_eq_nil_iff.1 e2.1
  refine ⟨listG_ok e1.2, listG_ok e2.2, listG_ok e3.2, listG_ok e4.2, listG_ok e5.2, ?_⟩
  cases hd : defBad d with
  | false => rfl
  | true => rw [hd, if_pos rfl] at h0; exact absurd h0.2 (by simp)
theorem ports_up {ps : List Int} (h : ∀ i, i < ps.length → portE ps (ps.getD i iE.zero) i = 0) : ps.Pairwise (· < ·) := by
  have hz : ∀ i, i + 1 < ps.length → ps.getD i 0 < ps.getD (i + 1) 0 := fun i hi => by
    have h1 := h (i + 1) hi
    unfold portE at h1
    split at h1
    · cases h1
    · split at h1
      · cases h1
      · rename_i h2
        have e : (((i + 1 : Nat) : Int) - 1).toNat = i := by omega
        rw [e] at h2
        have e2 : (iE.zero : Int) = 0 := rfl
        rw [e2] at h2
        omega
  have hall : ∀ d i : Nat, i + 1 + d < ps.length → ps.getD i 0 < ps.getD (i + 1 + d) 0 := by
    intro d
    induction d with
    | zero => exact fun i hi => hz i hi
    | succ d ih =>
      intro i hi
      have h1 := ih i (by omega)
      have h2 := hz (i + 1 + d) (by omega)
      have e : i + 1 + (d + 1) = i + 1 + d + 1 := by omega
      rw [e]
      omega
  rw [List.pairwise_iff_getElem]
  intro i j hi hj hij
  have := hall (j - i - 1) i (by omega)
  have e : i + 1 + (j - i - 1) = j := by omega
  rw [e] at this
  simpa [List.getD, hi, hj] using this
theorem may_way {l : CL} {d : Int} (h : mayB l d = true) (hn : l.Names) : l.Way 0 := by
  obtain ⟨h1, h2, h3, h4, h5⟩ := may_lens h
  exact ⟨ports_up (may_good h).ps, by omega, by omega, by omega, by omega, by omega, hn⟩
structure ChsAt (w : World) (cs : List SChange) (rls : List (List SRule)) : Prop where
  sl : ∀ i, i < cs.length → IsSl eRule w (cs.getD i eChange.zero).rules.v (rls.getD i [])
structure ChsOK (cs : List SChange) (rls : List (List SRule)) : Prop where
  n : cs.length ≤ 1000000
  nm : ∀ i, i < cs.length → (cs.getD i eChange.zero).meter.name.size ≤ 9223372036854775807 ∧ (cs.getD i eChange.zero).mirror.name.size ≤ 9223372036854775807
  len : ∀ i, i < cs.length → (rls.getD i []).length * 152 ≤ 140737488355328
  rn : ∀ i, i < cs.length → ∀ x ∈ rls.getD i [], x.name.size ≤ 9223372036854775807
theorem ChsAt.keep0 {w w' : World} {cs : List SChange} {rls : List (List SRule)} (h : ChsAt w cs rls) (k : Keeps Nope w w') : ChsAt w' cs rls := ⟨fun i hi => (h.sl i hi).keep0 k⟩
theorem goN_step {s t : CD} {cs : List SChange} {rls : List (List SRule)} {i : Int} (hi : 0 ≤ i) (h : goN s cs rls i.toNat = some t) (hb : changeB t.l (cs.getD i.toNat eChange.zero) = true) : goN s cs rls (i + 1).toNat = some ⟨changeL t.l (cs.getD i.toNat eChange.zero) (rls.getD i.toNat []), changeD t.d (cs.getD i.toNat eChange.zero)⟩ := by
  have e : (i + 1).toNat = i.toNat + 1 := by omega
  rw [e, goN, h]
  simp only [hb, if_true]
theorem goN_stop {s t : CD} {cs : List SChange} {rls : List (List SRule)} {i : Int} (hi : 0 ≤ i ∧ i < cs.length) (h : goN s cs rls i.toNat = some t) (hb : changeB t.l (cs.getD i.toNat eChange.zero) = false) : goN s cs rls cs.length = none := by
  refine goN_none (n := i.toNat + 1) ?_ _ (by omega)
  rw [goN, h]
  simp only [hb, Bool.false_eq_true, if_false]
theorem applyC_bad {s : CD} {cs : List SChange} {rls : List (List SRule)} (h : mayB s.l s.d = false) : applyC s cs rls = (210, ⟨⟨[], [], [], [], []⟩, 0⟩) := by
  unfold applyC
  rw [h]
  rfl
theorem applyC_stop {s : CD} {cs : List SChange} {rls : List (List SRule)} (h : mayB s.l s.d = true) (hg : goN s cs rls cs.length = none) : applyC s cs rls = (211, ⟨⟨[], [], [], [], []⟩, 0⟩) := by
  unfold applyC
  rw [h, hg]
  rfl
theorem applyC_no {s t : CD} {cs : List SChange} {rls : List (List SRule)} (h : mayB s.l s.d = true) (hg : goN s cs rls cs.length = some t) (h2 : mayB t.l t.d = false) : applyC s cs rls = (210, ⟨⟨[], [], [], [], []⟩, 0⟩) := by
  unfold applyC
  rw [h, hg]
  simp only [h2, if_true]
  rfl
theorem applyC_ok {s t : CD} {cs : List SChange} {rls : List (List SRule)} (h : mayB s.l s.d = true) (hg : goN s cs rls cs.length = some t) (h2 : mayB t.l t.d = true) : applyC s cs rls = (0, t) := by
  unfold applyC
  rw [h, hg]
  simp only [h2, if_true]
def nilCB : CB := ⟨nilSl, nilSl, nilSl, nilSl, nilSl⟩
theorem en16 : Gx.Enters Tryz.prog 16 := Gx.Enters.mk' zk
theorem en92 : Gx.Enters Tryz.prog 92 := Gx.Enters.mk' zk
theorem apply_ok (c : SConf) (l : CL) (u : Value) (cs : List SChange) (rls : List (List SRule)) (w : World) (hc : ConfAt w c l) (hn : l.Names) (hz : l.n ≤ 4611686018427387904) (hu : IsSl eChange w u cs) (hcs : ChsAt w cs rls) (hok : ChsOK cs rls) : Calls Tryz.prog 27 #[eConf.val c, u] w (RetN w (fun _ : CB => True) (fun x => .tuple #[eConf.val (x.c (applyC ⟨l, c.default⟩ cs rls).2.d), I (applyC ⟨l, c.default⟩ cs rls).1]) (fun x => x.R (applyC ⟨l, c.default⟩ cs rls).2.l)) := by
  have hle := hu.le
  refine en0 31 Tryz.func27 ?_
  refine sg (cons (box (E := eConf) (.t rfl) (fun b1 => ?_)))
  refine cons (alloc z28 (fun b2 => ?_))
  refine co (Ev.assign (.c (v := I 0) rfl)) ?_
  refine nP (seq (sg (co (Ev.ldx c ty28 (.t rfl) (Lens.id _)) ?_)))
  refine cons (callv en15 (.cons (.t rfl) .nil) (fun w I => may_ok c l w (hc.keep0 I.keeps) hn hz) ?_)
  refine co (Ev.not (.t rfl)) ?_
  refine nP ?_
  first | refine condD rfl (fun h0 => ?_) (fun h0 => ?_) | refine cond rfl (fun h0 => ?_) (fun h0 => ?_)
  · have hmay : mayB l c.default = false := by simpa using h0
    refine seq (takeNil iE 3 ?_)
    refine takeNil eRoute 52 ?_
    refine takeNil eRule 76 ?_
    refine takeNil eMeterConf 57 ?_
    refine takeNil eMirrorConf 59 ?_
    refine region (co (Ev.buildS (fs := _) (places := [(0, 1), (1, 1), (2, 1), (3, 1), (4, 1), (5, 1)]) z28 rfl Tryz.underlying28 zk .nil Fills.nil) ?_)
    refine cons (stv ty28 (Lens.id _) (.t rfl) (.t rfl) ?_)
    refine co (Ev.assign (.c (v := I 210) rfl)) ?_
    refine nP (ret (pR (done rfl (.cell rfl (fun w I => run_loadVar_pts ty28 (ptsVar zm (Lens.id _) w I)) (.tmp rfl .nil)) (fun w I => ?_))))
    refine retNP nilCB trivial ?_ ?_ w I
    · rw [(applyC_bad (s := ⟨l, c.default⟩) hmay)]; rfl
    · rw [(applyC_bad (s := ⟨l, c.default⟩) hmay)]; exact (by repeat first | exact SubP.nil | refine SubP.cons zr ?_)
  · have hmay : mayB l c.default = true := by simpa using h0
    have hlens := may_lens hmay
    have hsm : l.Small := ⟨by omega, by omega, by omega, by omega, by omega⟩
    have hway0 := may_way hmay hn
    refine skip (pN (sg (co (Ev.ldx c ty28 (.t rfl) (Lens.id _)) ?_)))
    refine cons (calln (X := CB) (fun _ => True) (fun x => eConf.val (x.c c.default)) (fun x => x.R l) en16 (.cons (.t rfl) .nil) (fun w I => copy_ok c l w (hc.keep0 I.keeps) hsm) (fun x0 _ => ?_))
    refine cons (alloc z28 (fun b3 => ?_))
    refine cons (stv ty28 (Lens.id _) (.t rfl) (.t rfl) ?_)
    refine nP (seq (seq (sepsIn (r := Var b3 eConf (x0.c c.default) 28) (l := [OwnS x0.o1.v iE l.ps 3, OwnS x0.o2.v eRoute l.rs 52, OwnS x0.o3.v eRule l.us 76, OwnS x0.o4.v eMeterConf l.ms 57, OwnS x0.o5.v eMirrorConf l.xs 59]) (M := [Var b2 eConf eConf.zero 28, Var b1 eConf c 28]) (by repeat first | exact SubP.nil | refine SubP.cons zr ?_) ?_)))
    refine region (mv rfl (co (Ev.len Tryz.underlying41 (.t rfl) zf) ?_))
    refine co (Ev.move (.c (v := I 0) rfl)) ?_
    refine nP (block (lp (X := Int × CB × CD) (fun x : Int × CB × CD => (0 ≤ x.1 ∧ x.1 ≤ cs.length) ∧ (goN ⟨l, c.default⟩ cs rls x.1.toNat = some x.2.2) ∧ (x.2.2.l.Way x.1.toNat)) (fun x : Int × CB × CD => [(2, true, .pointer (some ⟨b1, 0, none⟩)), (4, true, .pointer (some ⟨b2, 0, none⟩)), (6, true, .pointer (some ⟨b3, 0, none⟩)), (15, true, u), (16, true, I cs.length), (17, true, I x.1)]) (fun x : Int × CB × CD => [CR b3 x.2.1 x.2.2.l x.2.2.d, Var b2 eConf eConf.zero 28, Var b1 eConf c 28]) (fun x : Int × CB × CD => ((cs.length : Int) - x.1).toNat) (0, x0, ⟨l, c.default⟩) ⟨?_, ?_, ?_⟩ (fun x hx => ?_)))
    · omega
    · rfl
    · exact hway0
    obtain ⟨i, y, t⟩ := x
    obtain ⟨hi, hgo, hway⟩ : (0 ≤ i ∧ i ≤ cs.length) ∧ (goN ⟨l, c.default⟩ cs rls i.toNat = some t) ∧ (t.l.Way i.toNat) := hx
    show Sat _ _ [(2, true, .pointer (some ⟨b1, 0, none⟩)), (4, true, .pointer (some ⟨b2, 0, none⟩)), (6, true, .pointer (some ⟨b3, 0, none⟩)), (15, true, u), (16, true, I cs.length), (17, true, I i)] [CR b3 y t.l t.d, Var b2 eConf eConf.zero 28, Var b1 eConf c 28]
    have hcn := hok.n
    refine sg (co (Ev.lss_i (.t rfl) (.t rfl)) ?_)
    refine nP (seq ?_)
    first | refine condD rfl (fun h1 => ?_) (fun h1 => ?_) | refine cond rfl (fun h1 => ?_) (fun h1 => ?_)
    · try simp only [nb] at h1
      refine skip (pN (seq (block (sg (co (Ev.indexAddr Tryz.underlying41 ty61 (.t rfl) (.t rfl) (fun w I => hu.keep0 I.keeps) (fun _ => zo)) ?_)))))
      refine co (Ev.loadS0 ty61 (.t rfl) (fun w I => hu.keep0 I.keeps) (fun _ => zo)) ?_
      refine cons (alloc z61 (fun b4 => ?_))
      refine cons (stv ty61 (Lens.id _) (.t rfl) (.t rfl) ?_)
      refine nP (sg (co (Ev.ldv ty61 (.t rfl) (Lens.id _)) ?_))
      refine cons (callr (X := CB) (r := CR b3 y t.l t.d) (r' := fun x2 => CR b3 x2 (changeL t.l (cs.getD i.toNat eChange.zero) (rls.getD i.toNat [])) (changeD t.d (cs.getD i.toNat eChange.zero))) (fun _ => True) (fun _ => .bool (changeB t.l (cs.getD i.toNat eChange.zero))) (fun _ => zu) zm en92 (.cons (.t rfl) (.cons (.t rfl) .nil)) (fun w I => change_ok b3 y t.l t.d (cs.getD i.toNat eChange.zero) (rls.getD i.toNat []) w (am w I) (fun w1 k1 => (hcs.sl i.toNat (by omega)).keep0 (I.but zr k1).keeps) hway.up ⟨by have := hway.ps; omega, by have := hway.rs; omega, by have := hway.ms; omega, by have := hway.xs; omega⟩ (hok.len i.toNat (by omega))) (fun x2 _ => ?_))
      refine co (Ev.not (.t rfl)) ?_
      refine nP ?_
      first | refine condD rfl (fun h2 => ?_) (fun h2 => ?_) | refine cond rfl (fun h2 => ?_) (fun h2 => ?_)
      · have hcb : changeB t.l (cs.getD i.toNat eChange.zero) = false := by simpa using h2
        have hstop := goN_stop (by omega) hgo hcb
        refine seq (takeNil iE 3 ?_)
        refine takeNil eRoute 52 ?_
        refine takeNil eRule 76 ?_
        refine takeNil eMeterConf 57 ?_
        refine takeNil eMirrorConf 59 ?_
        refine region (co (Ev.buildS (fs := _) (places := [(0, 1), (1, 1), (2, 1), (3, 1), (4, 1), (5, 1)]) z28 rfl Tryz.underlying28 zk .nil Fills.nil) ?_)
        refine cons (stv ty28 (Lens.id _) (.t rfl) (.t rfl) ?_)
        refine co (Ev.assign (.c (v := I 211) rfl)) ?_
        refine nP (ret (bR (pR (pR (bR (pR (done rfl (.cell rfl (fun w I => run_loadVar_pts ty28 (ptsVar zm (Lens.id _) w I)) (.tmp rfl .nil)) (fun w I => ?_))))))))
        refine retNP nilCB trivial ?_ ?_ w I
        · rw [(applyC_stop (s := ⟨l, c.default⟩) hmay hstop)]; rfl
        · rw [(applyC_stop (s := ⟨l, c.default⟩) hmay hstop)]; exact (by repeat first | exact SubP.nil | refine SubP.cons zr ?_)
      · have hcb : changeB t.l (cs.getD i.toNat eChange.zero) = true := by simpa using h2
        have hst := goN_step hi.1 hgo hcb
        refine skip (bN (pN (region (co (Ev.add_i (.t rfl) (.c (v := I 1) rfl) (fun _ => zo)) ?_))))
        refine mv rfl (nP (nx (X := Int × CB × CD) (i + 1, _, ⟨_, _⟩) ⟨?_, ?_, ?_⟩ ?_))
        · try dsimp only
          omega
        · try dsimp only
          exact hst
        · try dsimp only
          have e : (i + 1).toNat = i.toNat + 1 := by omega
          rw [e]
          exact change_way hway (hok.nm i.toNat (by omega)) (hok.len i.toNat (by omega)) (hok.rn i.toNat (by omega))
        · try dsimp only
          omega
    · try simp only [nb] at h1
      refine exit (pX (pX (bX (pN (seq (seq ?_))))))
      have hgoc : goN ⟨l, c.default⟩ cs rls cs.length = some t := by
        have e : i.toNat = cs.length := by omega
        rw [← e]; exact hgo
      refine sepsOut zr ?_
      refine region (co (Ev.ldv ty28 (.t rfl) (Lens.id _)) ?_)
      refine cons (callv en15 (.cons (.t rfl) .nil) (fun w I => may_ok (y.c t.d) t.l w (co5 (x := y) (l := t.l) w I) hway.nm (by have := hway.ps; have := hway.rs; have := hway.us; have := hway.ms; have := hway.xs; unfold CL.n; omega)) ?_)
      refine co (Ev.not (.t rfl)) ?_
      refine nP ?_
      first | refine condD rfl (fun h3 => ?_) (fun h3 => ?_) | refine cond rfl (fun h3 => ?_) (fun h3 => ?_)
      · have hm2 : mayB t.l t.d = false := by simpa [CB.c] using h3
        refine seq (takeNil iE 3 ?_)
        refine takeNil eRoute 52 ?_
        refine takeNil eRule 76 ?_
        refine takeNil eMeterConf 57 ?_
        refine takeNil eMirrorConf 59 ?_
        refine region (co (Ev.buildS (fs := _) (places := [(0, 1), (1, 1), (2, 1), (3, 1), (4, 1), (5, 1)]) z28 rfl Tryz.underlying28 zk .nil Fills.nil) ?_)
        refine cons (stv ty28 (Lens.id _) (.t rfl) (.t rfl) ?_)
        refine co (Ev.assign (.c (v := I 210) rfl)) ?_
        refine nP (ret (pR (done rfl (.cell rfl (fun w I => run_loadVar_pts ty28 (ptsVar zm (Lens.id _) w I)) (.tmp rfl .nil)) (fun w I => ?_))))
        refine retNP nilCB trivial ?_ ?_ w I
        · rw [(applyC_no (s := ⟨l, c.default⟩) hmay hgoc hm2)]; rfl
        · rw [(applyC_no (s := ⟨l, c.default⟩) hmay hgoc hm2)]; exact (by repeat first | exact SubP.nil | refine SubP.cons zr ?_)
      · have hm2 : mayB t.l t.d = true := by simpa [CB.c] using h3
        refine skip (pN (sg (co (Ev.ldv ty28 (.t rfl) (Lens.id _)) ?_)))
        refine cons (stv ty28 (Lens.id _) (.t rfl) (.t rfl) ?_)
        refine co (Ev.assign (.c (v := I 0) rfl)) ?_
        refine nP (ret (done rfl (.cell rfl (fun w I => run_loadVar_pts ty28 (ptsVar zm (Lens.id _) w I)) (.tmp rfl .nil)) (fun w I => ?_)))
        refine retNP y trivial ?_ ?_ w I
        · rw [applyC_ok (s := ⟨l, c.default⟩) hmay hgoc hm2]; rfl
        · rw [applyC_ok (s := ⟨l, c.default⟩) hmay hgoc hm2]; exact (by repeat first | exact SubP.nil | refine SubP.cons zr ?_)
def s1 (n : UInt8) : ByteArray := ⟨#[n]⟩
def bkt1 : SBucket := ⟨1, 1, 1⟩
def smallL : CL := ⟨[1, 2], [⟨⟨⟨false, (Vector.replicate 16 0).set 0 10⟩, 8⟩, 2⟩],
  [{ eRule.zero with name := s1 97, action := 2, meter := s1 109 }, { eRule.zero with name := s1 98, match_ := { eMatch.zero with asks := 8, proto := 17 }, action := 3, out := 2 }],
  [⟨s1 109, bkt1⟩, ⟨s1 110, bkt1⟩], []⟩
def smallD : CL := { smallL with ps := [1, 2, 3] }
def CHW : List SChange := [chPort 1 3, chDefault 2]
theorem w_diff (rv : OV) : diffL smallL smallD 1 2 rv = CHW := by kernel_rfl
theorem w_diffE : diffE smallL smallD 1 2 = 0 := by decide +kernel
theorem w_diffR : diffR smallL smallD 1 2 = [] := by kernel_rfl
theorem w_apply : applyC ⟨smallL, 1⟩ CHW [[], []] = (0, ⟨smallD, 2⟩) := by kernel_rfl
theorem w_check : checkF smallL 0 = [⟨2, 7⟩] := by kernel_rfl
theorem w_may : mayB smallD 2 = true := by decide +kernel
theorem w_same : sameB smallD smallD 2 2 = true := by decide +kernel
theorem w_other : sameB smallD smallL 2 1 = false := by decide +kernel
theorem names_of {l : CL} (h : l.us.all (fun x => decide (x.name.size ≤ 16)) && l.ms.all (fun x => decide (x.name.size ≤ 16)) && l.xs.all (fun x => decide (x.name.size ≤ 16)) = true) : l.Names := by
  simp only [Bool.and_eq_true, List.all_eq_true, decide_eq_true_iff] at h
  exact ⟨fun x hx => by have := h.1.1 x hx; omega, fun x hx => by have := h.1.2 x hx; omega, fun x hx => by have := h.2 x hx; omega⟩
theorem smallL_names : smallL.Names := names_of (by decide +kernel)
theorem smallD_names : smallD.Names := names_of (by decide +kernel)
theorem smallL_n : smallL.n = 7 := by decide +kernel
theorem smallD_n : smallD.n = 8 := by decide +kernel
theorem smallL_small : smallL.Small := ⟨by decide, by decide, by decide, by decide, by decide⟩
theorem smallD_small : smallD.Small := ⟨by decide, by decide, by decide, by decide, by decide⟩
theorem chw_at (w : World) : ChsAt w CHW [[], []] := ⟨fun i hi => by
  have hi : i < 2 := hi
  have h : i = 0 ∨ i = 1 := by omega
  rcases h with rfl | rfl
  · exact IsSl.nil _ w
  · exact IsSl.nil _ w⟩
theorem chw_ok : ChsOK CHW [[], []] := ⟨by decide, fun i hi => by
  have hi : i < 2 := hi
  have h : i = 0 ∨ i = 1 := by omega
  rcases h with rfl | rfl <;> decide, fun i hi => by
  have hi : i < 2 := hi
  have h : i = 0 ∨ i = 1 := by omega
  rcases h with rfl | rfl <;> decide, fun i hi => by
  have hi : i < 2 := hi
  have h : i = 0 ∨ i = 1 := by omega
  rcases h with rfl | rfl <;> simp⟩
theorem z55 : (Tryz.prog.info? 55).bind (·.zero) = some (eBucket.val eBucket.zero) := by kernel_rfl
theorem z46 : (Tryz.prog.info? 46).bind (·.zero) = some ((arrE 16 u8E).val (arrE 16 u8E).zero) := by kernel_rfl
theorem z74 : (Tryz.prog.info? 74).bind (·.zero) = some (eMatch.val eMatch.zero) := by kernel_rfl
theorem small_ok (w : World) : Calls Tryz.prog 33 #[] w (RetN w (fun _ : CB => True) (fun x => eConf.val (x.c 1)) (fun x => x.R smallL)) := by
  refine en0 19 Tryz.func33 ?_
  refine sg (cons (alloc z28 (fun b1 => ?_)))
  refine nP (seq (takeNil eMirrorConf 59 ?_))
  refine region (co (Ev.buildS (fs := _) (places := [(0, 1), (1, 1), (2, 1)]) z55 rfl Tryz.underlying55 zk (.cons (.c (v := U64 1) rfl) (.cons (.c (v := U64 1) rfl) (.cons (.c (v := U64 1) rfl) .nil))) (Fills.cons SBucket.l_num rfl (Fills.cons SBucket.l_den rfl (Fills.cons SBucket.l_burst rfl Fills.nil)))) ?_)
  refine cons (alloc z55 (fun b2 => ?_))
  refine cons (stv ty55 (Lens.id _) (.t rfl) (.t rfl) ?_)
  refine nP (sg (cons (buildSlice (E := iE) Tryz.underlying22 ty3 z3 (.cons (.c (v := I 1) rfl) (.cons (.c (v := I 2) rfl) .nil)) rfl rfl (fun v3 => ?_))))
  refine co (Ev.buildA z46 Tryz.underlying46 ty5 (.cons (.c (v := U8 10) rfl) .nil) (Fills.cons (lArr u8E 0 (by decide)) rfl Fills.nil)) ?_
  refine co (Ev.buildS (fs := _) (places := [(0, 1), (1, 16)]) z48 rfl Tryz.underlying48 zk (.cons (.t rfl) .nil) (Fills.cons SAddr.l_b rfl Fills.nil)) ?_
  refine co (Ev.buildS (fs := _) (places := [(0, 17), (17, 1)]) z50 rfl Tryz.underlying50 zk (.cons (.t rfl) (.cons (.c (v := I 8) rfl) .nil)) (Fills.cons SPrefix.l_addr rfl (Fills.cons SPrefix.l_bits rfl Fills.nil))) ?_
  refine co (Ev.buildS (fs := _) (places := [(0, 18), (18, 1)]) z52 rfl Tryz.underlying52 zk (.cons (.t rfl) (.cons (.c (v := I 2) rfl) .nil)) (Fills.cons SRoute.l_to_ rfl (Fills.cons SRoute.l_out rfl Fills.nil))) ?_
  refine cons (buildSlice (E := eRoute) Tryz.underlying23 ty52 z52 (.cons (.t rfl) .nil) rfl rfl (fun v4 => ?_))
  refine co (Ev.buildS (fs := _) (places := [(0, 1), (1, 44), (45, 1), (46, 1), (47, 1), (48, 1)]) z76 rfl Tryz.underlying76 zk (.cons (.c (v := (Go.Value.string (ByteArray.mk #[97]))) rfl) (.cons (.c (v := I 2) rfl) (.cons (.c (v := (Go.Value.string (ByteArray.mk #[109]))) rfl) .nil))) (Fills.cons SRule.l_name rfl (Fills.cons SRule.l_action rfl (Fills.cons SRule.l_meter rfl Fills.nil)))) ?_
  refine co (Ev.buildS (fs := _) (places := [(0, 1), (1, 2), (3, 18), (21, 18), (39, 1), (40, 2), (42, 2)]) z74 rfl Tryz.underlying74 zk (.cons (.c (v := U8 8) rfl) (.cons (.c (v := U8 17) rfl) .nil)) (Fills.cons SMatch.l_asks rfl (Fills.cons SMatch.l_proto rfl Fills.nil))) ?_
  refine co (Ev.buildS (fs := _) (places := [(0, 1), (1, 44), (45, 1), (46, 1), (47, 1), (48, 1)]) z76 rfl Tryz.underlying76 zk (.cons (.c (v := (Go.Value.string (ByteArray.mk #[98]))) rfl) (.cons (.t rfl) (.cons (.c (v := I 3) rfl) (.cons (.c (v := I 2) rfl) .nil)))) (Fills.cons SRule.l_name rfl (Fills.cons SRule.l_match_ rfl (Fills.cons SRule.l_action rfl (Fills.cons SRule.l_out rfl Fills.nil))))) ?_
  refine cons (buildSlice (E := eRule) Tryz.underlying24 ty76 z76 (.cons (.t rfl) (.cons (.t rfl) .nil)) rfl rfl (fun v5 => ?_))
  refine co (Ev.ldv ty55 (.t rfl) (Lens.id _)) ?_
  refine co (Ev.buildS (fs := _) (places := [(0, 1), (1, 3)]) z57 rfl Tryz.underlying57 zk (.cons (.c (v := (Go.Value.string (ByteArray.mk #[109]))) rfl) (.cons (.t rfl) .nil)) (Fills.cons SMeterConf.l_name rfl (Fills.cons SMeterConf.l_bucket rfl Fills.nil))) ?_
  refine co (Ev.ldv ty55 (.t rfl) (Lens.id _)) ?_
  refine co (Ev.buildS (fs := _) (places := [(0, 1), (1, 3)]) z57 rfl Tryz.underlying57 zk (.cons (.c (v := (Go.Value.string (ByteArray.mk #[110]))) rfl) (.cons (.t rfl) .nil)) (Fills.cons SMeterConf.l_name rfl (Fills.cons SMeterConf.l_bucket rfl Fills.nil))) ?_
  refine cons (buildSlice (E := eMeterConf) Tryz.underlying25 ty57 z57 (.cons (.t rfl) (.cons (.t rfl) .nil)) rfl rfl (fun v6 => ?_))
  refine co (Ev.buildS (fs := _) (places := [(0, 1), (1, 1), (2, 1), (3, 1), (4, 1), (5, 1)]) z28 rfl Tryz.underlying28 zk (.cons (.t rfl) (.cons (.t rfl) (.cons (.t rfl) (.cons (.t rfl) (.cons (.c (v := I 1) rfl) .nil))))) (Fills.cons SConf.l_ports rfl (Fills.cons SConf.l_routes rfl (Fills.cons SConf.l_rules rfl (Fills.cons SConf.l_meters rfl (Fills.cons SConf.l_default rfl Fills.nil)))))) ?_
  refine cons (stv ty28 (Lens.id _) (.t rfl) (.t rfl) ?_)
  refine nP (ret (done rfl (.cell rfl (fun w I => run_loadVar_pts ty28 (ptsVar zm (Lens.id _) w I)) .nil) (fun w I => ?_)))
  exact retNP (⟨v3, v4, v5, v6, nilSl⟩ : CB) trivial rfl (by repeat first | exact SubP.nil | refine SubP.cons zr ?_) w I
theorem diff_w (s d : CB) (w : World) (hs : ConfAt w (s.c 1) smallL) (hd : ConfAt w (d.c 2) smallD) : Calls Tryz.prog 23 #[eConf.val (s.c 1), eConf.val (d.c 2)] w (RetN w (fun _ : OV × OV => True) (fun x => .tuple #[x.1.v, I 0]) (fun x => [OwnS x.1.v eChange CHW 61, OwnS x.2.v eRule [] 76])) := by
  refine (diff_ok (s.c 1) (d.c 2) smallL smallD w hs hd smallL_names smallD_names (by rw [smallL_n]; decide) (by rw [smallD_n]; decide)).mono fun e w1 h => ?_
  obtain ⟨x, h1, h2, h3, h4⟩ := h
  refine ⟨x, h1, ?_, h3, ?_⟩
  · rw [h2]
    show Ending.returned (.tuple #[x.1.v, I (diffE smallL smallD 1 2)]) = _
    rw [w_diffE]
  · have e1 : [OwnS x.1.v eChange (diffL smallL smallD (s.c 1).default (d.c 2).default x.2) 61, OwnS x.2.v eRule (diffR smallL smallD (s.c 1).default (d.c 2).default) 76] = [OwnS x.1.v eChange CHW 61, OwnS x.2.v eRule [] 76] := by
      show [OwnS x.1.v eChange (diffL smallL smallD 1 2 x.2) 61, OwnS x.2.v eRule (diffR smallL smallD 1 2) 76] = _
      rw [w_diff, w_diffR]
    dsimp only at h4
    rw [e1] at h4
    exact h4
theorem apply_w (s : CB) (u : Value) (w : World) (hs : ConfAt w (s.c 1) smallL) (hu : IsSl eChange w u CHW) : Calls Tryz.prog 27 #[eConf.val (s.c 1), u] w (RetN w (fun _ : CB => True) (fun x => .tuple #[eConf.val (x.c 2), I 0]) (fun x => x.R smallD)) := by
  refine (apply_ok (s.c 1) smallL u CHW [[], []] w hs smallL_names (by rw [smallL_n]; decide) hu (chw_at w) chw_ok).mono fun e w1 h => ?_
  have e0 : applyC ⟨smallL, (s.c 1).default⟩ CHW [[], []] = (0, ⟨smallD, 2⟩) := w_apply
  rw [e0] at h
  exact h
theorem en33 : Gx.Enters Tryz.prog 33 := Gx.Enters.mk' zk
theorem en23 : Gx.Enters Tryz.prog 23 := Gx.Enters.mk' zk
theorem en27 : Gx.Enters Tryz.prog 27 := Gx.Enters.mk' zk
theorem en21 : Gx.Enters Tryz.prog 21 := Gx.Enters.mk' zk
def SFault.eqb (x y : SFault) : Bool := eqd x.code y.code && (eqd x.at_ y.at_ && (true))
theorem SFault.eqb_iff (x y : SFault) : SFault.eqb x y = true ↔ x = y := by
  obtain ⟨a0, a1⟩ := x
  obtain ⟨b0, b1⟩ := y
  simp only [SFault.eqb, Bool.and_eq_true, eqd_iff, eqd_iff, SFault.mk.injEq, and_true]
theorem ty35 : TyOK Tryz.prog 35 iE := TyOK.mk' zk zk
theorem eqok37 : EqOK Tryz.prog 37 eFault SFault.eqb 2 := eqok_struct (fs := _) Tryz.underlying37 zk rfl (EqF.cons (by decide) rfl SFault.l_code ty35 (eqok_i Tryz.underlying35) (EqF.cons (by decide) rfl SFault.l_at_ ty3 (eqok_i Tryz.underlying3) EqF.nil)) (fun _ _ => rfl)
instance : DecidableEq SFault := fun x y => decidable_of_iff (SFault.eqb x y = true) (SFault.eqb_iff x y)
@[simp] theorem SFault.eqb_dec (x y : SFault) : SFault.eqb x y = decide (x = y) := by
  rw [Bool.eq_iff_iff, decide_eq_true_iff]
  exact SFault.eqb_iff x y
theorem SFault.eqb_self (x : SFault) : SFault.eqb x x = true := (SFault.eqb_iff x x).2 rfl
theorem works_ok (w : World) : Calls Tryz.prog 20 #[] w (RetV w (.bool true)) := by
  refine en0 70 Tryz.func20 ?_
  refine sg (co (Ev.assign (.c (v := .bool false) rfl)) ?_)
  refine nP (sg (cons (calln (X := CB) (fun _ => True) (fun x => eConf.val (x.c 1)) (fun x => x.R smallL) en33 .nil (fun w I => small_ok w) (fun s0 _ => ?_))))
  refine cons (alloc z28 (fun b1 => ?_))
  refine cons (stv ty28 (Lens.id _) (.t rfl) (.t rfl) ?_)
  refine nP (sg (co (Ev.to (v' := eConf.val (s0.c 1)) (Ev.ldv ty28 (.t rfl) (Lens.id _)) (rfl)) ?_))
  refine cons (calln (X := CB) (fun _ => True) (fun x => eConf.val (x.c 1)) (fun x => x.R smallL) en16 (.cons (.t rfl) .nil) (fun w I => copy_ok (s0.c 1) smallL w (co5 (x := s0) (l := smallL) w I) smallL_small) (fun x1 _ => ?_))
  refine cons (alloc z28 (fun b2 => ?_))
  refine cons (stv ty28 (Lens.id _) (.t rfl) (.t rfl) ?_)
  refine nP (sg (co (fA 0 (.t rfl)) ?_))
  refine co (Ev.to (v' := x1.o1.v) (Ev.ldv ty22 (.t rfl) SConf.l_ports) (rfl)) ?_
  refine cons (buildSlice (E := iE) Tryz.underlying22 ty3 z3 (.cons (.c (v := I 3) rfl) .nil) rfl rfl (fun v3 => ?_))
  refine cons (app (E := iE) Tryz.underlying22 ty3 zb3 zs3 (.t rfl) (.t rfl) (fun v4 => ?_) (hby := ⟨by decide, by decide⟩))
  refine co (fA 0 (.t rfl)) ?_
  refine cons (stv ty22 SConf.l_ports (.t rfl) (.t rfl) ?_)
  refine nP (sg (co (fA 5 (.t rfl)) ?_))
  refine cons (stv ty3 SConf.l_default (.t rfl) (.c (v := I 2) rfl) ?_)
  refine nP (sg (co (Ev.to (v' := eConf.val (s0.c 1)) (Ev.ldv ty28 (.t rfl) (Lens.id _)) (rfl)) ?_))
  refine co (Ev.to (v' := eConf.val ((⟨v4, x1.o2, x1.o3, x1.o4, x1.o5⟩ : CB).c 2)) (Ev.ldv ty28 (.t rfl) (Lens.id _)) (rfl)) ?_
  refine cons (calln (X := OV × OV) (fun _ => True) (fun x => .tuple #[x.1.v, I 0]) (fun x => [OwnS x.1.v eChange CHW 61, OwnS x.2.v eRule [] 76]) en23 (.cons (.t rfl) (.cons (.t rfl) .nil)) (fun w I => diff_w s0 (⟨v4, x1.o2, x1.o3, x1.o4, x1.o5⟩ : CB) w (co5 (x := s0) (l := smallL) w I) (co5 (x := (⟨v4, x1.o2, x1.o3, x1.o4, x1.o5⟩ : CB)) (l := smallD) w I)) (fun d1 _ => ?_))
  refine mv rfl (co (Ev.extract (.t rfl) rfl) (co (Ev.extract (.t rfl) rfl) (asn rfl (asn rfl (nP (sg (co (Ev.to (v' := eConf.val (s0.c 1)) (Ev.ldv ty28 (.t rfl) (Lens.id _)) (rfl)) ?_)))))))
  refine mv rfl (cons (calln (X := CB) (fun _ => True) (fun x => .tuple #[eConf.val (x.c 2), I 0]) (fun x => x.R smallD) en27 (.cons (.t rfl) (.cons (.t rfl) .nil)) (fun w I => apply_w s0 _ w (co5 (x := s0) (l := smallL) w I) (io w I)) (fun a1 _ => ?_)))
  refine mv rfl (co (Ev.extract (.t rfl) rfl) (co (Ev.extract (.t rfl) rfl) (cons (alloc z28 (fun b5 => ?_)))))
  refine cons (stv ty28 (Lens.id _) (.t rfl) (.t rfl) ?_)
  refine asn rfl (nP (sg (co (fA 5 (.t rfl)) ?_)))
  refine cons (stv ty3 SConf.l_default (.t rfl) (.c (v := I 0) rfl) ?_)
  refine nP (sg (co (Ev.to (v' := eConf.val (s0.c 0)) (Ev.ldv ty28 (.t rfl) (Lens.id _)) (rfl)) ?_))
  refine cons (callo (xs := ([⟨2, 7⟩] : List SFault)) en12 (.cons (.t rfl) .nil) (fun w I => by have h := conf_check (s0.c 0) smallL w (co5 (x := s0) (l := smallL) w I) smallL_names (by rw [smallL_n]; decide); rw [show checkF smallL (s0.c 0).default = ([⟨2, 7⟩] : List SFault) from w_check] at h; exact h) (fun f1 => ?_))
  refine asn rfl (nP (seq (draw' zk ?_)))
  refine tk 0 rfl (Ev.move (.t rfl)) ?_
  refine tk 1 rfl (Ev.to (v' := .bool true) (Ev.eql_i (.t rfl) (.c (v := I 0) rfl)) (congrArg Value.bool (by decide +kernel))) ?_
  refine tk 2 rfl (Ev.move (.t rfl)) ?_
  refine tkg 3 rfl rfl rfl (Ev.move (.t rfl)) ?_
  refine tkg 4 rfl rfl rfl (Ev.to (v' := .bool true) (Ev.eql_i (.g rfl id) (.c (v := I 0) rfl)) (congrArg Value.bool (by decide +kernel))) ?_
  refine tk 5 rfl (Ev.to (v' := .bool true) (Ev.pkA (.t rfl) rfl) (rfl)) ?_
  refine tk 6 rfl (Ev.move (.t rfl)) ?_
  refine tkg 7 rfl rfl rfl (Ev.move (.t rfl)) ?_
  refine tkg 8 rfl rfl rfl (Ev.len Tryz.underlying41 (.g rfl id) zf) ?_
  refine tkg 9 rfl rfl rfl (Ev.to (v' := .bool true) (Ev.eql_i (.g rfl id) (.c (v := I 2) rfl)) (congrArg Value.bool (by decide +kernel))) ?_
  refine tk 10 rfl (Ev.to (v' := .bool true) (Ev.pkA (.t rfl) rfl) (rfl)) ?_
  refine tk 11 rfl (Ev.move (.t rfl)) ?_
  refine tkg 12 rfl rfl rfl (Ev.to (v' := eConf.val (a1.c 2)) (Ev.ldv ty28 (.t rfl) (Lens.id _)) (rfl)) ?_
  refine tkg 13 rfl rfl rfl (Ev.to (v' := eConf.val ((⟨v4, x1.o2, x1.o3, x1.o4, x1.o5⟩ : CB).c 2)) (Ev.ldv ty28 (.t rfl) (Lens.id _)) (rfl)) ?_
  refine al1 14 rfl ((callg rfl rfl en21 (.cons (.g rfl id) (.cons (.g rfl id) .nil)) (fun hg w I => same_ok (a1.c 2) ((⟨v4, x1.o2, x1.o3, x1.o4, x1.o5⟩ : CB).c 2) smallD smallD w (co5 (x := a1) (l := smallD) w I) (co5 (x := (⟨v4, x1.o2, x1.o3, x1.o4, x1.o5⟩ : CB)) (l := smallD) w I) smallD_small smallD_small) ?_))
  refine hdn (tk 15 rfl (Ev.to (v' := .bool true) (Ev.pkA (.t rfl) rfl) (congrArg Value.bool w_same)) ?_)
  refine tk 16 rfl (Ev.move (.t rfl)) ?_
  refine tkg 17 rfl rfl rfl (Ev.to (v' := eConf.val (a1.c 2)) (Ev.ldv ty28 (.t rfl) (Lens.id _)) (rfl)) ?_
  refine al1 18 rfl ((opgT rfl rfl rfl ?_))
  refine (calln (X := CB) (fun _ => True) (fun x => eConf.val (x.c 1)) (fun x => x.R smallL) en33 .nil (fun w I => small_ok w) (fun s2 _ => ?_))
  refine hdn (al1 19 rfl ((callg rfl rfl en21 (.cons (.g rfl id) (.cons (.t rfl) .nil)) (fun hg w I => same_ok (a1.c 2) (s2.c 1) smallD smallL w (co5 (x := a1) (l := smallD) w I) (co5 (x := s2) (l := smallL) w I) smallD_small smallL_small) ?_)))
  refine hdn (tkg 20 rfl rfl rfl (Ev.to (v' := .bool true) (Ev.not (.g rfl id)) (congrArg Value.bool (by show (!sameB smallD smallL 2 1) = true; rw [w_other]; rfl))) ?_)
  refine tk 21 rfl (Ev.to (v' := .bool true) (Ev.pkA (.t rfl) rfl) (rfl)) ?_
  refine tk 22 rfl (Ev.move (.t rfl)) ?_
  refine tkg 23 rfl rfl rfl (Ev.to (v' := eConf.val ((⟨v4, x1.o2, x1.o3, x1.o4, x1.o5⟩ : CB).c 2)) (Ev.ldv ty28 (.t rfl) (Lens.id _)) (rfl)) ?_
  refine al1 24 rfl ((callg rfl rfl en15 (.cons (.g rfl id) .nil) (fun hg w I => may_ok ((⟨v4, x1.o2, x1.o3, x1.o4, x1.o5⟩ : CB).c 2) smallD w (co5 (x := (⟨v4, x1.o2, x1.o3, x1.o4, x1.o5⟩ : CB)) (l := smallD) w I) smallD_names (by rw [smallD_n]; decide)) ?_))
  refine hdn (tk 25 rfl (Ev.to (v' := .bool true) (Ev.pkA (.t rfl) rfl) (congrArg Value.bool w_may)) ?_)
  refine tk 26 rfl (Ev.move (.t rfl)) ?_
  refine tkg 27 rfl rfl rfl (Ev.move (.t rfl)) ?_
  refine tkg 28 rfl rfl rfl (Ev.len Tryz.underlying31 (.g rfl id) zf) ?_
  refine tkg 29 rfl rfl rfl (Ev.to (v' := .bool true) (Ev.eql_i (.g rfl id) (.c (v := I 1) rfl)) (congrArg Value.bool (by decide +kernel))) ?_
  refine tk 30 rfl (Ev.to (v' := .bool true) (Ev.pkA (.t rfl) rfl) (rfl)) ?_
  refine tk 31 rfl (Ev.move (.t rfl)) ?_
  refine tkg 32 rfl rfl rfl (Ev.move (.t rfl)) ?_
  refine tkg 33 rfl rfl rfl (Ev.indexAddr Tryz.underlying31 ty37 (.g rfl id) (.c (v := I 0) rfl) zf (fun _ => by decide)) ?_
  refine tkg 34 rfl rfl rfl (Ev.loadS0 (i := 0) ty37 (.g rfl id) zf (fun _ => by decide)) ?_
  refine tkg 35 rfl rfl rfl (Ev.buildS (fs := _) (places := [(0, 1), (1, 1)]) z37 rfl Tryz.underlying37 zk (.cons (.c (v := I 2) rfl) (.cons (.c (v := I 7) rfl) .nil)) (Fills.cons SFault.l_code rfl (Fills.cons SFault.l_at_ rfl Fills.nil))) ?_
  refine tkg 36 rfl rfl rfl (Ev.to (v' := .bool true) (Ev.eqlS rfl eqok37 rfl zk (.g rfl id) (.g rfl id)) (congrArg Value.bool (by decide +kernel))) ?_
  refine tk 37 rfl (Ev.to (v' := .bool true) (Ev.pkA (.t rfl) rfl) (rfl)) ?_
  refine tk 38 rfl (Ev.assign (.t rfl)) ?_
  refine ovr (pN (ret (done rfl (.tmp rfl .nil) (retE ?_))))
  rfl
theorem find_first {α κ : Type} {q : κ → κ → Bool} (hi : ∀ x y, q x y = true ↔ x = y) (f : α → κ) (l : List α) (k : κ) : ∀ n, n ≤ l.length → findV q k (firstN q f l n) = ((l.take n).findIdx? (fun x => q (f x) k)).map (fun i : Nat => (i : Int))
  | 0, _ => by simp [firstN, findV, findL]
  | n + 1, h => by
    have hlt : n < l.length := by omega
    have ih := find_first hi f l k n (by omega)
    have ihx := find_first hi f l (f l[n]) n (by omega)
    have e : l[n]? = some l[n] := List.getElem?_eq_getElem hlt
    have hlen : (l.take n).length = n := by simp; omega
    rw [firstN, e, List.take_succ_eq_append_getElem hlt, List.findIdx?_append]
    simp only
    cases hs : (findV q (f l[n]) (firstN q f l n)).isSome with
    | true =>
      rw [if_pos rfl, ih]
      cases hk : (l.take n).findIdx? (fun x => q (f x) k) with
      | some i => simp
      | none =>
        have hq : q (f l[n]) k = false := by
          rw [Bool.eq_false_iff]
          intro hq
          have e2 := (hi _ _).1 hq
          subst e2
          rw [ihx, hk] at hs
          cases hs
        simp [List.findIdx?_cons, hq]
    | false =>
      rw [if_neg Bool.false_ne_true, findV_put hi]
      have hn : (l.take n).findIdx? (fun x => q (f x) (f l[n])) = none := by
        rw [ihx] at hs
        cases h2 : (l.take n).findIdx? (fun x => q (f x) (f l[n])) with
        | none => rfl
        | some i => rw [h2] at hs; cases hs
      by_cases hq : q k (f l[n]) = true
      · have e2 := (hi _ _).1 hq
        subst e2
        rw [if_pos hq, hn]
        simp [List.findIdx?_cons, hq, hlen]
      · rw [if_neg hq, ih]
        have hq2 : q (f l[n]) k = false := by
          rw [Bool.eq_false_iff]
          intro h2
          exact hq ((hi _ _).2 ((hi _ _).1 h2).symm)
        cases hk : (l.take n).findIdx? (fun x => q (f x) k) <;> simp [List.findIdx?_cons, hq2]
theorem find_all {α κ : Type} {q : κ → κ → Bool} (hi : ∀ x y, q x y = true ↔ x = y) (f : α → κ) (l : List α) (k : κ) : findV q k (firstN q f l l.length) = (l.findIdx? (fun x => q (f x) k)).map (fun i : Nat => (i : Int)) := by
  rw [find_first hi f l k _ (Nat.le_refl _), List.take_length]
theorem find_idx {α κ : Type} {q : κ → κ → Bool} (hi : ∀ x y, q x y = true ↔ x = y) (f : α → κ) (l : List α) (k : κ) : (findV q k (firstN q f l l.length)).isSome = decide (¬ idxF (fun x => q (f x) k) l < 0) := by
  rw [find_all hi]
  unfold idxF
  cases l.findIdx? (fun x => q (f x) k) with
  | none => rfl
  | some i => simp
theorem find_at {α κ : Type} {q : κ → κ → Bool} (hi : ∀ x y, q x y = true ↔ x = y) (f : α → κ) (l : List α) (z : α) (i : Nat) (h : i < l.length) : (findV q (f (l.getD i z)) (firstN q f l l.length)).getD 0 = idxF (fun x => q (f x) (f (l.getD i z))) l := by
  rw [find_all hi]
  unfold idxF
  cases hk : l.findIdx? (fun x => q (f x) (f (l.getD i z))) with
  | some j => rfl
  | none =>
    have := List.findIdx?_eq_none_iff.1 hk (l.getD i z) (getD_in _ _ _ h)
    rw [(hi _ _).2 rfl] at this
    cases this
theorem portB_iff (l : CL) (p : Int) : portB l p = true ↔ p ∈ l.ps := by
  unfold portB portsM
  rw [find_all eqd_iff, Option.isSome_map, ← Option.ne_none_iff_isSome, Ne, List.findIdx?_eq_none_iff]
  constructor
  · intro h
    refine Decidable.byContradiction fun hn => h fun x hx => ?_
    rw [Bool.eq_false_iff]
    intro hq
    exact hn (((eqd_iff _ _).1 hq) ▸ hx)
  · intro h hn
    have := hn p h
    rw [(eqd_iff _ _).2 rfl] at this
    cases this
theorem eqs_dec (x y : ByteArray) : eqs x y = decide (x = y) := by
  rw [Bool.eq_iff_iff, decide_eq_true_iff]
  exact eqs_iff x y
theorem rport_ok (c : SConf) (l : CL) (p : Int) (w : World) (hc : ConfAt w c l) : Calls Tryz.prog 124 #[eConf.val c, I p] w (RetV w (.bool (portB l p))) := by
  have hle := hc.ps.le
  refine en0 20 Tryz.func124 ?_
  refine sg (cons (box (E := eConf) (.t rfl) (fun b1 => ?_)))
  refine co (Ev.assign (.c (v := .bool false) rfl)) ?_
  refine nP (seq (sg (co (Ev.assign (.c (v := I 0) rfl)) ?_)))
  refine nP (block (lp (X := Int) (fun x : Int => (0 ≤ x ∧ x ≤ l.ps.length) ∧ (∀ k : Nat, k < x → ¬ l.ps.getD k iE.zero = p)) (fun x : Int => [(1, true, I p), (2, true, .pointer (some ⟨b1, 0, none⟩)), (5, true, I x)]) (fun x : Int => [Var b1 eConf c 28]) (fun x : Int => ((l.ps.length : Int) - x).toNat) (0) ⟨?_, ?_⟩ (fun x hx => ?_)))
  · omega
  · intro k h; omega
  obtain ⟨i, rfl⟩ : ∃ y, y = x := ⟨x, rfl⟩
  obtain ⟨hi, hq⟩ : (0 ≤ i ∧ i ≤ l.ps.length) ∧ (∀ k : Nat, k < i → ¬ l.ps.getD k iE.zero = p) := hx
  show Sat _ _ [(1, true, I p), (2, true, .pointer (some ⟨b1, 0, none⟩)), (5, true, I i)] [Var b1 eConf c 28]
  refine seq (sg (mv rfl (co (fA 0 (.t rfl)) ?_)))
  refine co (Ev.ldx c.ports ty22 (.t rfl) SConf.l_ports) ?_
  refine co (Ev.len Tryz.underlying22 (.t rfl) (fun w I => (hc.keep0 I.keeps).ps)) ?_
  refine co (Ev.lss_i (.t rfl) (.t rfl)) ?_
  refine nP ?_
  first | refine condD rfl (fun h0 => ?_) (fun h0 => ?_) | refine cond rfl (fun h0 => ?_) (fun h0 => ?_)
  · try simp only [nb] at h0
    refine skip (pN (seq (block (sg (co (fA 0 (.t rfl)) ?_)))))
    refine co (Ev.ldx c.ports ty22 (.t rfl) SConf.l_ports) ?_
    refine mv rfl (co (Ev.indexAddr Tryz.underlying22 ty3 (.t rfl) (.t rfl) (fun w I => (hc.keep0 I.keeps).ps) (fun _ => zo)) ?_)
    refine co (Ev.loadS0 ty3 (.t rfl) (fun w I => (hc.keep0 I.keeps).ps) (fun _ => zo)) ?_
    refine mv rfl (co (Ev.eql_i (.t rfl) (.t rfl)) ?_)
    refine nP ?_
    first | refine condD rfl (fun h1 => ?_) (fun h1 => ?_) | refine cond rfl (fun h1 => ?_) (fun h1 => ?_)
    · try simp only [nb] at h1
      refine sg (co (Ev.assign (.c (v := .bool true) rfl)) ?_)
      refine nP (ret (bR (pR (pR (bR (pR (done rfl (.tmp rfl .nil) (retE ?_))))))))
      have hb : portB l p = true := (portB_iff l p).2 (h1 ▸ getD_in _ _ _ (by omega))
      rw [hb]; rfl
    · try simp only [nb] at h1
      refine skip (bN (pN (region (mv rfl (co (Ev.add_i (.t rfl) (.c (v := I 1) rfl) (fun _ => zo)) ?_)))))
      refine asn rfl (nP (nx (X := Int) (i + 1) ⟨?_, ?_⟩ ?_))
      · try dsimp only
        omega
      · try dsimp only
        intro k h
        by_cases e : (k : Int) < i
        · exact hq k e
        · obtain rfl : k = i.toNat := by omega
          exact h1
      · try dsimp only
        omega
  · try simp only [nb] at h0
    refine exit (pX (pX (bX (pN (sg (co (Ev.assign (.c (v := .bool false) rfl)) ?_))))))
    refine nP (ret (done rfl (.tmp rfl .nil) (retE ?_)))
    have hb : portB l p = false := by
      rw [Bool.eq_false_iff]
      intro h
      obtain ⟨k, hk, e⟩ := List.mem_iff_getElem.1 ((portB_iff l p).1 h)
      exact hq k (by omega) (by simp [List.getD, hk, e])
    rw [hb]; rfl
theorem rmeter_ix (c : SConf) (l : CL) (a : ByteArray) (w : World) (hc : ConfAt w c l) : Calls Tryz.prog 126 #[eConf.val c, sE.val a] w (RetV w (I (idxF (fun x => decide (x.name = a)) l.ms))) := by
  have hle := hc.ms.le
  refine en0 22 Tryz.func126 ?_
  refine sg (cons (box (E := eConf) (.t rfl) (fun b1 => ?_)))
  refine co (Ev.assign (.c (v := I 0) rfl)) ?_
  refine nP (seq (sg (co (Ev.assign (.c (v := I 0) rfl)) ?_)))
  refine nP (block (lp (X := Int) (fun x : Int => (0 ≤ x ∧ x ≤ l.ms.length) ∧ (∀ k : Nat, k < x → (fun x => decide (x.name = a)) (l.ms.getD k eMeterConf.zero) = false)) (fun x : Int => [(1, true, sE.val a), (2, true, .pointer (some ⟨b1, 0, none⟩)), (5, true, I x)]) (fun x : Int => [Var b1 eConf c 28]) (fun x : Int => ((l.ms.length : Int) - x).toNat) (0) ⟨?_, ?_⟩ (fun x hx => ?_)))
  · omega
  · intro k h; omega
  obtain ⟨i, rfl⟩ : ∃ y, y = x := ⟨x, rfl⟩
  obtain ⟨hi, hq⟩ : (0 ≤ i ∧ i ≤ l.ms.length) ∧ (∀ k : Nat, k < i → (fun x => decide (x.name = a)) (l.ms.getD k eMeterConf.zero) = false) := hx
  show Sat _ _ [(1, true, sE.val a), (2, true, .pointer (some ⟨b1, 0, none⟩)), (5, true, I i)] [Var b1 eConf c 28]
  refine seq (sg (mv rfl (co (fA 3 (.t rfl)) ?_)))
  refine co (Ev.ldx c.meters ty25 (.t rfl) SConf.l_meters) ?_
  refine co (Ev.len Tryz.underlying25 (.t rfl) (fun w I => (hc.keep0 I.keeps).ms)) ?_
  refine co (Ev.lss_i (.t rfl) (.t rfl)) ?_
  refine nP ?_
  first | refine condD rfl (fun h0 => ?_) (fun h0 => ?_) | refine cond rfl (fun h0 => ?_) (fun h0 => ?_)
  · try simp only [nb] at h0
    refine skip (pN (seq (block (sg (co (fA 3 (.t rfl)) ?_)))))
    refine co (Ev.ldx c.meters ty25 (.t rfl) SConf.l_meters) ?_
    refine mv rfl (co (Ev.indexAddr Tryz.underlying25 ty57 (.t rfl) (.t rfl) (fun w I => (hc.keep0 I.keeps).ms) (fun _ => zo)) ?_)
    refine co (Ev.fieldAddrS (o := 0) (i := i) (.t rfl) (fun w I => (hc.keep0 I.keeps).ms) (fun _ => zo) zk) ?_
    refine co (Ev.loadS ty9 SMeterConf.l_name rfl (.t rfl) (fun w I => (hc.keep0 I.keeps).ms) (fun _ => zo)) ?_
    refine mv rfl (co (Ev.eql_s (.t rfl) (.t rfl)) ?_)
    refine nP ?_
    first | refine condD rfl (fun h1 => ?_) (fun h1 => ?_) | refine cond rfl (fun h1 => ?_) (fun h1 => ?_)
    · refine sg (mv rfl (asn rfl (nP (ret (bR (pR (pR (bR (pR (done rfl (.tmp rfl .nil) (retE ?_)))))))))))
      rw [idx_at (p := fun x => decide (x.name = a)) eMeterConf.zero (by omega) hq (by first | exact h1 | exact decide_eq_true h1)]; rfl
    · refine skip (bN (pN (region (mv rfl (co (Ev.add_i (.t rfl) (.c (v := I 1) rfl) (fun _ => zo)) ?_)))))
      refine asn rfl (nP (nx (X := Int) (i + 1) ⟨?_, ?_⟩ ?_))
      · try dsimp only
        omega
      · try dsimp only
        intro k h
        by_cases e : (k : Int) < i
        · exact hq k e
        · obtain rfl : k = i.toNat := by omega
          first | exact h1 | exact decide_eq_false h1
      · try dsimp only
        omega
  · try simp only [nb] at h0
    refine exit (pX (pX (bX (pN (sg (co (Ev.assign (.c (v := I (-1)) rfl)) ?_))))))
    refine nP (ret (done rfl (.tmp rfl .nil) (retE ?_)))
    rw [idx_none (p := fun x => decide (x.name = a)) eMeterConf.zero (fun k hk => hq k (by omega))]; rfl
theorem rmirror_ix (c : SConf) (l : CL) (a : ByteArray) (w : World) (hc : ConfAt w c l) : Calls Tryz.prog 127 #[eConf.val c, sE.val a] w (RetV w (I (idxF (fun x => decide (x.name = a)) l.xs))) := by
  have hle := hc.xs.le
  refine en0 22 Tryz.func127 ?_
  refine sg (cons (box (E := eConf) (.t rfl) (fun b1 => ?_)))
  refine co (Ev.assign (.c (v := I 0) rfl)) ?_
  refine nP (seq (sg (co (Ev.assign (.c (v := I 0) rfl)) ?_)))
  refine nP (block (lp (X := Int) (fun x : Int => (0 ≤ x ∧ x ≤ l.xs.length) ∧ (∀ k : Nat, k < x → (fun x => decide (x.name = a)) (l.xs.getD k eMirrorConf.zero) = false)) (fun x : Int => [(1, true, sE.val a), (2, true, .pointer (some ⟨b1, 0, none⟩)), (5, true, I x)]) (fun x : Int => [Var b1 eConf c 28]) (fun x : Int => ((l.xs.length : Int) - x).toNat) (0) ⟨?_, ?_⟩ (fun x hx => ?_)))
  · omega
  · intro k h; omega
  obtain ⟨i, rfl⟩ : ∃ y, y = x := ⟨x, rfl⟩
  obtain ⟨hi, hq⟩ : (0 ≤ i ∧ i ≤ l.xs.length) ∧ (∀ k : Nat, k < i → (fun x => decide (x.name = a)) (l.xs.getD k eMirrorConf.zero) = false) := hx
  show Sat _ _ [(1, true, sE.val a), (2, true, .pointer (some ⟨b1, 0, none⟩)), (5, true, I i)] [Var b1 eConf c 28]
  refine seq (sg (mv rfl (co (fA 4 (.t rfl)) ?_)))
  refine co (Ev.ldx c.mirrors ty26 (.t rfl) SConf.l_mirrors) ?_
  refine co (Ev.len Tryz.underlying26 (.t rfl) (fun w I => (hc.keep0 I.keeps).xs)) ?_
  refine co (Ev.lss_i (.t rfl) (.t rfl)) ?_
  refine nP ?_
  first | refine condD rfl (fun h0 => ?_) (fun h0 => ?_) | refine cond rfl (fun h0 => ?_) (fun h0 => ?_)
  · try simp only [nb] at h0
    refine skip (pN (seq (block (sg (co (fA 4 (.t rfl)) ?_)))))
    refine co (Ev.ldx c.mirrors ty26 (.t rfl) SConf.l_mirrors) ?_
    refine mv rfl (co (Ev.indexAddr Tryz.underlying26 ty59 (.t rfl) (.t rfl) (fun w I => (hc.keep0 I.keeps).xs) (fun _ => zo)) ?_)
    refine co (Ev.fieldAddrS (o := 0) (i := i) (.t rfl) (fun w I => (hc.keep0 I.keeps).xs) (fun _ => zo) zk) ?_
    refine co (Ev.loadS ty9 SMirrorConf.l_name rfl (.t rfl) (fun w I => (hc.keep0 I.keeps).xs) (fun _ => zo)) ?_
    refine mv rfl (co (Ev.eql_s (.t rfl) (.t rfl)) ?_)
    refine nP ?_
    first | refine condD rfl (fun h1 => ?_) (fun h1 => ?_) | refine cond rfl (fun h1 => ?_) (fun h1 => ?_)
    · refine sg (mv rfl (asn rfl (nP (ret (bR (pR (pR (bR (pR (done rfl (.tmp rfl .nil) (retE ?_)))))))))))
      rw [idx_at (p := fun x => decide (x.name = a)) eMirrorConf.zero (by omega) hq (by first | exact h1 | exact decide_eq_true h1)]; rfl
    · refine skip (bN (pN (region (mv rfl (co (Ev.add_i (.t rfl) (.c (v := I 1) rfl) (fun _ => zo)) ?_)))))
      refine asn rfl (nP (nx (X := Int) (i + 1) ⟨?_, ?_⟩ ?_))
      · try dsimp only
        omega
      · try dsimp only
        intro k h
        by_cases e : (k : Int) < i
        · exact hq k e
        · obtain rfl : k = i.toNat := by omega
          first | exact h1 | exact decide_eq_false h1
      · try dsimp only
        omega
  · try simp only [nb] at h0
    refine exit (pX (pX (bX (pN (sg (co (Ev.assign (.c (v := I (-1)) rfl)) ?_))))))
    refine nP (ret (done rfl (.tmp rfl .nil) (retE ?_)))
    rw [idx_none (p := fun x => decide (x.name = a)) eMirrorConf.zero (fun k hk => hq k (by omega))]; rfl
theorem rrule_ix (c : SConf) (l : CL) (a : ByteArray) (w : World) (hc : ConfAt w c l) : Calls Tryz.prog 156 #[eConf.val c, sE.val a] w (RetV w (I (idxF (fun x => decide (x.name = a)) l.us))) := by
  have hle := hc.us.le
  refine en0 22 Tryz.func156 ?_
  refine sg (cons (box (E := eConf) (.t rfl) (fun b1 => ?_)))
  refine co (Ev.assign (.c (v := I 0) rfl)) ?_
  refine nP (seq (sg (co (Ev.assign (.c (v := I 0) rfl)) ?_)))
  refine nP (block (lp (X := Int) (fun x : Int => (0 ≤ x ∧ x ≤ l.us.length) ∧ (∀ k : Nat, k < x → (fun x => decide (x.name = a)) (l.us.getD k eRule.zero) = false)) (fun x : Int => [(1, true, sE.val a), (2, true, .pointer (some ⟨b1, 0, none⟩)), (5, true, I x)]) (fun x : Int => [Var b1 eConf c 28]) (fun x : Int => ((l.us.length : Int) - x).toNat) (0) ⟨?_, ?_⟩ (fun x hx => ?_)))
  · omega
  · intro k h; omega
  obtain ⟨i, rfl⟩ : ∃ y, y = x := ⟨x, rfl⟩
  obtain ⟨hi, hq⟩ : (0 ≤ i ∧ i ≤ l.us.length) ∧ (∀ k : Nat, k < i → (fun x => decide (x.name = a)) (l.us.getD k eRule.zero) = false) := hx
  show Sat _ _ [(1, true, sE.val a), (2, true, .pointer (some ⟨b1, 0, none⟩)), (5, true, I i)] [Var b1 eConf c 28]
  refine seq (sg (mv rfl (co (fA 2 (.t rfl)) ?_)))
  refine co (Ev.ldx c.rules ty24 (.t rfl) SConf.l_rules) ?_
  refine co (Ev.len Tryz.underlying24 (.t rfl) (fun w I => (hc.keep0 I.keeps).us)) ?_
  refine co (Ev.lss_i (.t rfl) (.t rfl)) ?_
  refine nP ?_
  first | refine condD rfl (fun h0 => ?_) (fun h0 => ?_) | refine cond rfl (fun h0 => ?_) (fun h0 => ?_)
  · try simp only [nb] at h0
    refine skip (pN (seq (block (sg (co (fA 2 (.t rfl)) ?_)))))
    refine co (Ev.ldx c.rules ty24 (.t rfl) SConf.l_rules) ?_
    refine mv rfl (co (Ev.indexAddr Tryz.underlying24 ty76 (.t rfl) (.t rfl) (fun w I => (hc.keep0 I.keeps).us) (fun _ => zo)) ?_)
    refine co (Ev.fieldAddrS (o := 0) (i := i) (.t rfl) (fun w I => (hc.keep0 I.keeps).us) (fun _ => zo) zk) ?_
    refine co (Ev.loadS ty9 SRule.l_name rfl (.t rfl) (fun w I => (hc.keep0 I.keeps).us) (fun _ => zo)) ?_
    refine mv rfl (co (Ev.eql_s (.t rfl) (.t rfl)) ?_)
    refine nP ?_
    first | refine condD rfl (fun h1 => ?_) (fun h1 => ?_) | refine cond rfl (fun h1 => ?_) (fun h1 => ?_)
    · refine sg (mv rfl (asn rfl (nP (ret (bR (pR (pR (bR (pR (done rfl (.tmp rfl .nil) (retE ?_)))))))))))
      rw [idx_at (p := fun x => decide (x.name = a)) eRule.zero (by omega) hq (by first | exact h1 | exact decide_eq_true h1)]; rfl
    · refine skip (bN (pN (region (mv rfl (co (Ev.add_i (.t rfl) (.c (v := I 1) rfl) (fun _ => zo)) ?_)))))
      refine asn rfl (nP (nx (X := Int) (i + 1) ⟨?_, ?_⟩ ?_))
      · try dsimp only
        omega
      · try dsimp only
        intro k h
        by_cases e : (k : Int) < i
        · exact hq k e
        · obtain rfl : k = i.toNat := by omega
          first | exact h1 | exact decide_eq_false h1
      · try dsimp only
        omega
  · try simp only [nb] at h0
    refine exit (pX (pX (bX (pN (sg (co (Ev.assign (.c (v := I (-1)) rfl)) ?_))))))
    refine nP (ret (done rfl (.tmp rfl .nil) (retE ?_)))
    rw [idx_none (p := fun x => decide (x.name = a)) eRule.zero (fun k hk => hq k (by omega))]; rfl
theorem rroute_ix (c : SConf) (l : CL) (a : SPrefix) (w : World) (hc : ConfAt w c l) : Calls Tryz.prog 125 #[eConf.val c, ePrefix.val a] w (RetV w (I (idxF (fun x => SPrefix.eqb x.to_ a) l.rs))) := by
  have hle := hc.rs.le
  refine en0 22 Tryz.func125 ?_
  refine sg (cons (box (E := eConf) (.t rfl) (fun b1 => ?_)))
  refine cons (box (E := ePrefix) (.t rfl) (fun b2 => ?_))
  refine co (Ev.assign (.c (v := I 0) rfl)) ?_
  refine nP (seq (sg (co (Ev.assign (.c (v := I 0) rfl)) ?_)))
  refine nP (block (lp (X := Int) (fun x : Int => (0 ≤ x ∧ x ≤ l.rs.length) ∧ (∀ k : Nat, k < x → (fun x => SPrefix.eqb x.to_ a) (l.rs.getD k eRoute.zero) = false)) (fun x : Int => [(3, true, .pointer (some ⟨b2, 0, none⟩)), (2, true, .pointer (some ⟨b1, 0, none⟩)), (5, true, I x)]) (fun x : Int => [Var b2 ePrefix a 50, Var b1 eConf c 28]) (fun x : Int => ((l.rs.length : Int) - x).toNat) (0) ⟨?_, ?_⟩ (fun x hx => ?_)))
  · omega
  · intro k h; omega
  obtain ⟨i, rfl⟩ : ∃ y, y = x := ⟨x, rfl⟩
  obtain ⟨hi, hq⟩ : (0 ≤ i ∧ i ≤ l.rs.length) ∧ (∀ k : Nat, k < i → (fun x => SPrefix.eqb x.to_ a) (l.rs.getD k eRoute.zero) = false) := hx
  show Sat _ _ [(3, true, .pointer (some ⟨b2, 0, none⟩)), (2, true, .pointer (some ⟨b1, 0, none⟩)), (5, true, I i)] [Var b2 ePrefix a 50, Var b1 eConf c 28]
  refine seq (sg (mv rfl (co (fA 1 (.t rfl)) ?_)))
  refine co (Ev.ldx c.routes ty23 (.t rfl) SConf.l_routes) ?_
  refine co (Ev.len Tryz.underlying23 (.t rfl) (fun w I => (hc.keep0 I.keeps).rs)) ?_
  refine co (Ev.lss_i (.t rfl) (.t rfl)) ?_
  refine nP ?_
  first | refine condD rfl (fun h0 => ?_) (fun h0 => ?_) | refine cond rfl (fun h0 => ?_) (fun h0 => ?_)
  · try simp only [nb] at h0
    refine skip (pN (seq (block (seq (draw' zk ?_)))))
    refine tk 0 rfl (fA 1 (.t rfl)) ?_
    refine tk 1 rfl (Ev.ldx c.routes ty23 (.t rfl) SConf.l_routes) ?_
    refine tk 2 rfl (Ev.move (.t rfl)) ?_
    refine tk 3 rfl (Ev.indexAddr Tryz.underlying23 ty52 (.t rfl) (.t rfl) (fun w I => (hc.keep0 I.keeps).rs) (fun _ => zo)) ?_
    refine tk 4 rfl (Ev.fieldAddrS (o := 0) (i := i) (.t rfl) (fun w I => (hc.keep0 I.keeps).rs) (fun _ => zo) zk) ?_
    refine tk 5 rfl (Ev.loadS ty50 SRoute.l_to_ rfl (.t rfl) (fun w I => (hc.keep0 I.keeps).rs) (fun _ => zo)) ?_
    refine tk 6 rfl (Ev.ldx a ty50 (.t rfl) (Lens.id _)) ?_
    refine tk 7 rfl (Ev.eqlS rfl eqok50 rfl zk (.t rfl) (.t rfl)) ?_
    refine ovr (pN ?_)
    first | refine condD rfl (fun h1 => ?_) (fun h1 => ?_) | refine cond rfl (fun h1 => ?_) (fun h1 => ?_)
    · refine sg (mv rfl (asn rfl (nP (ret (bR (pR (pR (bR (pR (done rfl (.tmp rfl .nil) (retE ?_)))))))))))
      rw [idx_at (p := fun x => SPrefix.eqb x.to_ a) eRoute.zero (by omega) hq (by first | exact h1 | exact decide_eq_true h1)]; rfl
    · refine skip (bN (pN (region (mv rfl (co (Ev.add_i (.t rfl) (.c (v := I 1) rfl) (fun _ => zo)) ?_)))))
      refine asn rfl (nP (nx (X := Int) (i + 1) ⟨?_, ?_⟩ ?_))
      · try dsimp only
        omega
      · try dsimp only
        intro k h
        by_cases e : (k : Int) < i
        · exact hq k e
        · obtain rfl : k = i.toNat := by omega
          first | exact h1 | exact decide_eq_false h1
      · try dsimp only
        omega
  · try simp only [nb] at h0
    refine exit (pX (pX (bX (pN (sg (co (Ev.assign (.c (v := I (-1)) rfl)) ?_))))))
    refine nP (ret (done rfl (.tmp rfl .nil) (retE ?_)))
    rw [idx_none (p := fun x => SPrefix.eqb x.to_ a) eRoute.zero (fun k hk => hq k (by omega))]; rfl
theorem str_get {s : ByteArray} {i : Nat} (h : i < s.size) : s[i]? = some (s.get! i) := by
  have h2 : s.get! i = s[i] := by
    cases s with
    | mk bs =>
      show bs[i]! = bs[i]
      exact getElem!_pos bs i h
  rw [h2]
  exact getElem?_pos s i h
def nameU (c : UInt8) (i : Int) : Bool := (decide (97 ≤ c) && decide (c ≤ 122)) || (!decide (i = 0) && (((decide (48 ≤ c) && decide (c ≤ 57)) || decide (c = 45)) || decide (c = 95)))
theorem nameU_eq (c : UInt8) {i : Int} (h : 0 ≤ i) : nameU c i = nameC c.toNat i := by
  have key : ∀ n : Fin 256, (decide (97 ≤ UInt8.ofNat n.val) = decide (97 ≤ (n.val : Int))) ∧ (decide (UInt8.ofNat n.val ≤ 122) = decide ((n.val : Int) ≤ 122)) ∧ (decide (48 ≤ UInt8.ofNat n.val) = decide (48 ≤ (n.val : Int))) ∧ (decide (UInt8.ofNat n.val ≤ 57) = decide ((n.val : Int) ≤ 57)) ∧ (decide (UInt8.ofNat n.val = 45) = decide ((n.val : Int) = 45)) ∧ (decide (UInt8.ofNat n.val = 95) = decide ((n.val : Int) = 95)) := by decide +kernel
  obtain ⟨k1, k2, k3, k4, k5, k6⟩ := key ⟨c.toNat, c.toNat_lt⟩
  simp only [UInt8.ofNat_toNat] at k1 k2 k3 k4 k5 k6
  unfold nameU nameC
  rw [k1, k2, k3, k4, k5, k6]
  have e : (!decide (i = 0)) = decide (0 < i) := by
    by_cases h0 : i = 0
    · simp [h0]
    · have : 0 < i := by omega
      simp [h0, this]
  rw [e]
theorem name_key : ∀ A B C : Bool, (!A && (B || !C)) = !(A || (!B && C)) := by decide
theorem nameB_no {s : ByteArray} {i : Nat} (h : i < s.size) (hb : nameC (s.get! i).toNat i = false) : nameB s = false := by
  unfold nameB
  have : (List.range s.size).all (fun k => nameC (s.get! k).toNat k) = false := List.all_eq_false.2 ⟨i, List.mem_range.2 h, by simp [hb]⟩
  rw [this, Bool.and_false]
theorem nameB_yes {s : ByteArray} (h0 : 1 ≤ s.size ∧ s.size ≤ 16) (hq : ∀ k, k < s.size → nameC (s.get! k).toNat k = true) : nameB s = true := by
  have h : (decide (s.size = 0) || decide (16 < s.size)) = false := by rw [Bool.or_eq_false_iff, decide_eq_false_iff_not, decide_eq_false_iff_not]; omega
  unfold nameB
  rw [h]
  exact List.all_eq_true.2 fun k hk => hq k (List.mem_range.1 hk)
theorem nameB_len {s : ByteArray} (h : s.size < 1 ∨ 16 < s.size) : nameB s = false := by
  have h : (decide (s.size = 0) || decide (16 < s.size)) = true := by rw [Bool.or_eq_true, decide_eq_true_eq, decide_eq_true_eq]; omega
  unfold nameB
  rw [h]
  rfl
theorem u8_mod2 (y : UInt8) : y % 2 = y &&& 1 := by
  apply UInt8.toNat_inj.1
  rw [UInt8.toNat_and, UInt8.toNat_mod]
  have e : UInt8.toNat 1 = 1 := rfl
  have e2 : UInt8.toNat 2 = 2 := rfl
  rw [e, e2, Nat.and_one_is_mod]
theorem checkA_bytes (a : SAddr) : checkA a = 0 ↔ ∀ k : Nat, wd a / 8 ≤ k → k < 16 → a.b.toList.getD k 0 = 0 := by
  have hw : wd a = 32 ∨ wd a = 128 := by unfold wd; cases a.v6 <;> simp
  rw [checkA_zero]
  constructor
  · intro h k h1 h2
    have hm := (mk1_iff (a.b.toList.getD k 0) 0).2 (fun j hj _ => by
      rw [← bitU_at _ _ _ hj]
      exact h _ (by omega) (by omega))
    rw [← hm]
    rfl
  · intro h i h1 h2
    have e : i = 8 * ((i / 8).toNat : Int) + ((i % 8).toNat : Int) := by omega
    rw [e, bitU_at _ _ _ (by omega), h _ (by omega) (by omega)]
    have : ∀ j : Fin 8, bitOf 0 j.val = 0 := by decide
    exact this ⟨(i % 8).toNat, by omega⟩
def rooms : List Int := [2, 4, 8, 16, 32, 64, 128, 256, 512, 1024]
theorem roomB_iff (n : Int) : roomB n = true ↔ n ∈ rooms := by
  have key : ∀ m : Fin 1025, decide (2 ≤ m.val ∧ m.val ≤ 1024 ∧ m.val &&& (m.val - 1) = 0) = decide ((m.val : Int) ∈ rooms) := by decide +kernel
  unfold roomB
  rw [decide_eq_true_iff]
  by_cases h : 0 ≤ n ∧ n ≤ 1024
  · have h2 := key ⟨n.toNat, by omega⟩
    have e : ((n.toNat : Nat) : Int) = n := by omega
    simp only [e] at h2
    rw [Bool.eq_iff_iff, decide_eq_true_iff, decide_eq_true_iff] at h2
    rw [← h2]
    constructor
    · rintro ⟨h3, h4, h5⟩
      exact ⟨by omega, by omega, h5⟩
    · rintro ⟨h3, h4, h5⟩
      exact ⟨by omega, by omega, h5⟩
  · constructor
    · rintro ⟨h3, h4, h5⟩
      omega
    · intro h3
      have : ∀ x ∈ rooms, 0 ≤ x ∧ x ≤ 1024 := by decide
      have := this n h3
      omega
theorem rname_ok (s : ByteArray) (w : World) (hs : s.size ≤ 9223372036854775807) : Calls Tryz.prog 155 #[.string s] w (RetV w (.bool (nameB s))) := by
  refine en0 54 Tryz.func155 ?_
  refine sg (co (Ev.assign (.c (v := .bool false) rfl)) ?_)
  refine nP (seq (sg (mv rfl (co (Ev.lenS Tryz.underlying9 (.t rfl)) ?_))))
  refine co (Ev.lss_i (.t rfl) (.c (v := I 1) rfl)) ?_
  refine mv rfl (cg rfl rfl (Ev.move (.t rfl)) ?_)
  refine cg rfl rfl (Ev.lenS Tryz.underlying9 (.g rfl id)) ?_
  refine cg rfl rfl (Ev.gtr_i (.g rfl id) (.c (v := I 16) rfl)) ?_
  refine co (Ev.pkO (.t rfl) rfl) ?_
  refine nP ?_
  first | refine condD rfl (fun h0 => ?_) (fun h0 => ?_) | refine cond rfl (fun h0 => ?_) (fun h0 => ?_)
  · try simp only [nb] at h0
    refine sg (co (Ev.assign (.c (v := .bool false) rfl)) ?_)
    refine nP (ret (pR (done rfl (.tmp rfl .nil) (retE ?_))))
    rw [nameB_len (by omega)]; rfl
  · try simp only [nb] at h0
    refine skip (pN (seq (sg (co (Ev.assign (.c (v := I 0) rfl)) ?_))))
    refine nP (block (lp (X := Int) (fun x : Int => (0 ≤ x ∧ x ≤ s.size) ∧ (∀ k : Nat, k < x → nameC (s.get! k).toNat k = true)) (fun x : Int => [(0, true, .string s), (3, true, I x)]) (fun x : Int => []) (fun x : Int => ((s.size : Int) - x).toNat) (0) ⟨?_, ?_⟩ (fun x hx => ?_)))
    · omega
    · intro k h; omega
    obtain ⟨i, rfl⟩ : ∃ y, y = x := ⟨x, rfl⟩
    obtain ⟨hi, hq⟩ : (0 ≤ i ∧ i ≤ s.size) ∧ (∀ k : Nat, k < i → nameC (s.get! k).toNat k = true) := hx
    show Sat _ _ [(0, true, .string s), (3, true, I i)] []
    refine seq (sg (mv rfl (mv rfl (co (Ev.lenS Tryz.underlying9 (.t rfl)) ?_))))
    refine co (Ev.lss_i (.t rfl) (.t rfl)) ?_
    refine nP ?_
    first | refine condD rfl (fun h1 => ?_) (fun h1 => ?_) | refine cond rfl (fun h1 => ?_) (fun h1 => ?_)
    · try simp only [nb] at h1
      refine skip (pN (seq (block (sg (mv rfl (mv rfl (co (Ev.indexS (b := s.get! i.toNat) (s := s) Tryz.underlying9 (.t rfl) (.t rfl) (fun _ => ⟨by omega, str_get (by omega)⟩)) ?_)))))))
      refine asn rfl (nP (sg (mv rfl (co (Ev.geq_u8 (.t rfl) (.c (v := U8 97) rfl)) ?_))))
      refine mv rfl (cg rfl rfl (Ev.move (.t rfl)) ?_)
      refine cg rfl rfl (Ev.leq_u8 (.g rfl id) (.c (v := U8 122) rfl)) ?_
      refine co (Ev.pkA (.t rfl) rfl) ?_
      refine asn rfl (nP (sg (mv rfl (co (Ev.geq_u8 (.t rfl) (.c (v := U8 48) rfl)) ?_))))
      refine mv rfl (cg rfl rfl (Ev.move (.t rfl)) ?_)
      refine cg rfl rfl (Ev.leq_u8 (.g rfl id) (.c (v := U8 57) rfl)) ?_
      refine co (Ev.pkA (.t rfl) rfl) ?_
      refine mv rfl (cg rfl rfl (Ev.move (.t rfl)) ?_)
      refine cg rfl rfl (Ev.eql_u8 (.g rfl id) (.c (v := U8 45) rfl)) ?_
      refine co (Ev.pkO (.t rfl) rfl) ?_
      refine mv rfl (cg rfl rfl (Ev.move (.t rfl)) ?_)
      refine cg rfl rfl (Ev.eql_u8 (.g rfl id) (.c (v := U8 95) rfl)) ?_
      refine co (Ev.pkO (.t rfl) rfl) ?_
      refine asn rfl (nP (sg (mv rfl (co (Ev.not (.t rfl)) ?_))))
      refine mv rfl (cg rfl rfl (Ev.move (.t rfl)) ?_)
      refine cg rfl rfl (Ev.eql_i (.g rfl id) (.c (v := I 0) rfl)) ?_
      refine cg rfl rfl (Ev.move (.g rfl id)) ?_
      refine cg rfl rfl (Ev.move (.t rfl)) ?_
      refine cg rfl rfl (Ev.not (.g rfl id)) ?_
      refine cg rfl rfl (Ev.pkO (.g rfl id) rfl) ?_
      refine co (Ev.pkA (.t rfl) rfl) ?_
      refine nP ?_
      first | refine condD rfl (fun h2 => ?_) (fun h2 => ?_) | refine cond rfl (fun h2 => ?_) (fun h2 => ?_)
      · have h2b := (name_key _ _ _).symm.trans h2
        rw [Bool.not_eq_true'] at h2b
        have hu : nameU (s.get! i.toNat) i = false := h2b
        rw [nameU_eq _ (by omega)] at hu
        have ei : ((i.toNat : Nat) : Int) = i := by omega
        rw [← ei] at hu
        simp only [ei, Int.toNat_natCast] at hu
        refine sg (co (Ev.assign (.c (v := .bool false) rfl)) ?_)
        refine nP (ret (bR (pR (pR (bR (pR (done rfl (.tmp rfl .nil) (retE ?_))))))))
        have e : nameB s = false := nameB_no (i := i.toNat) (by omega) (by rw [ei]; exact hu)
        rw [e]; rfl
      · have hcu : nameC (s.get! i.toNat).toNat (i.toNat : Nat) = true := by
          have h2b := (name_key _ _ _).symm.trans h2
          rw [Bool.not_eq_false'] at h2b
          have hu : nameU (s.get! i.toNat) i = true := h2b
          rw [nameU_eq _ (by omega)] at hu
          have ei : ((i.toNat : Nat) : Int) = i := by omega
          rw [ei]; exact hu
        refine skip (bN (pN (region (mv rfl (co (Ev.add_i (.t rfl) (.c (v := I 1) rfl) (fun _ => zo)) ?_)))))
        refine asn rfl (nP (nx (X := Int) (i + 1) ⟨?_, ?_⟩ ?_))
        · try dsimp only
          omega
        · try dsimp only
          intro k h
          by_cases e : (k : Int) < i
          · exact hq k e
          · obtain rfl : k = i.toNat := by omega
            exact hcu
        · try dsimp only
          omega
    · try simp only [nb] at h1
      refine exit (pX (pX (bX (pN (sg (co (Ev.assign (.c (v := .bool true) rfl)) ?_))))))
      refine nP (ret (done rfl (.tmp rfl .nil) (retE ?_)))
      have e : nameB s = true := nameB_yes (by omega) (fun k hk => hq k (by omega))
      rw [e]; rfl
theorem r15width_ok (a : SAddr) (w : World) : Calls Tryz.prog 183 #[eAddr.val a] w (RetV w (I (wd a))) := by
  refine en0 5 Tryz.func183 ?_
  refine sg (cons (box (E := eAddr) (.t rfl) (fun b1 => ?_)))
  refine co (Ev.assign (.c (v := I 0) rfl)) ?_
  refine nP (seq (sg (co (fA 0 (.t rfl)) ?_)))
  refine co (Ev.ldx a.v6 ty4 (.t rfl) SAddr.l_v6) ?_
  refine nP ?_
  first | refine condD rfl (fun h0 => ?_) (fun h0 => ?_) | refine cond rfl (fun h0 => ?_) (fun h0 => ?_)
  · try simp only [nb] at h0
    refine sg (co (Ev.assign (.c (v := I 128) rfl)) ?_)
    refine nP (ret (pR (done rfl (.tmp rfl .nil) (retE ?_))))
    simp [wd, h0, tupV]
  · try simp only [nb] at h0
    refine skip (pN (sg (co (Ev.assign (.c (v := I 32) rfl)) ?_)))
    refine nP (ret (done rfl (.tmp rfl .nil) (retE ?_)))
    simp [wd, h0, tupV]
theorem r15bit_ok (a : SAddr) (i : Int) (w : World) (h : 0 ≤ i ∧ i < 128) : Calls Tryz.prog 184 #[eAddr.val a, I i] w (RetV w (.bool (decide (bitU a.b.toList i = 1)))) := by
  refine en0 16 Tryz.func184 ?_
  refine sg (cons (box (E := eAddr) (.t rfl) (fun b1 => ?_)))
  refine co (Ev.assign (.c (v := .bool false) rfl)) ?_
  refine nP (sg (mv rfl (co (Ev.quo_n (.t rfl) (.c (v := I 8) rfl) (fun _ => zo) (fun _ => zo) (fun _ => zo)) ?_)))
  refine co (fA 1 (.t rfl)) ?_
  refine co (Ev.indexAddrA Tryz.underlying46 ty5 (.t rfl) (.t rfl) (fun _ => zo)) ?_
  refine co (Ev.ldv ty5 (.t rfl) (Lens.comp SAddr.l_b (lArr (n := 16) u8E _ (by omega)))) ?_
  refine mv rfl (co (Ev.rem_n (.t rfl) (.c (v := I 8) rfl) (fun _ => zo) (fun _ => zo)) ?_)
  refine co (Ev.sub_i (.c (v := I 7) rfl) (.t rfl) (fun _ => zo)) ?_
  refine co (Ev.shr_u8 (.t rfl) (.t rfl) (fun _ => zo)) ?_
  refine co (Ev.rem_u8 (.t rfl) (.c (v := U8 2) rfl) (fun _ => by decide)) ?_
  refine co (Ev.eql_u8 (.t rfl) (.c (v := U8 1) rfl)) ?_
  refine asn rfl (nP (ret (done rfl (.tmp rfl .nil) (retE ?_))))
  unfold bitU
  rw [vec_getD a.b _ (by omega), ← u8_mod2]
  rfl
theorem en183 : Gx.Enters Tryz.prog 183 := Gx.Enters.mk' zk
theorem r15checkA_ok (a : SAddr) (w : World) : Calls Tryz.prog 182 #[eAddr.val a] w (RetV w (I (checkA a))) := by
  have hw := wd_le a
  refine en0 16 Tryz.func182 ?_
  refine sg (cons (box (E := eAddr) (.t rfl) (fun b1 => ?_)))
  refine co (Ev.assign (.c (v := I 0) rfl)) ?_
  refine nP (seq (sg (co (Ev.ldx a ty48 (.t rfl) (Lens.id _)) ?_)))
  refine cons (callv en183 (.cons (.t rfl) .nil) (fun w I => r15width_ok _ w) ?_)
  refine co (Ev.to (v' := I (wd a / 8)) (Ev.quo_n (.t rfl) (.c (v := I 8) rfl) (fun _ => zo) (fun _ => zo) (fun _ => zo)) (rfl)) ?_
  refine asn rfl (nP (block (lp (X := Int) (fun x : Int => (wd a / 8 ≤ x ∧ x ≤ 16) ∧ (∀ k : Nat, wd a / 8 ≤ k → k < x → a.b.toList.getD k 0 = 0)) (fun x : Int => [(1, true, .pointer (some ⟨b1, 0, none⟩)), (3, true, I x)]) (fun x : Int => [Var b1 eAddr a 48]) (fun x : Int => (16 - x).toNat) (wd a / 8) ⟨?_, ?_⟩ (fun x hx => ?_))))
  · omega
  · intro k h1 h2; omega
  obtain ⟨i, rfl⟩ : ∃ y, y = x := ⟨x, rfl⟩
  obtain ⟨hi, hz⟩ : (wd a / 8 ≤ i ∧ i ≤ 16) ∧ (∀ k : Nat, wd a / 8 ≤ k → k < i → a.b.toList.getD k 0 = 0) := hx
  show Sat _ _ [(1, true, .pointer (some ⟨b1, 0, none⟩)), (3, true, I i)] [Var b1 eAddr a 48]
  refine seq (sg (mv rfl (co (Ev.lss_i (.t rfl) (.c (v := I 16) rfl)) ?_)))
  refine nP ?_
  first | refine condD rfl (fun h0 => ?_) (fun h0 => ?_) | refine cond rfl (fun h0 => ?_) (fun h0 => ?_)
  · try simp only [nb] at h0
    refine skip (pN (seq (block (sg (mv rfl (co (fA 1 (.t rfl)) ?_))))))
    refine co (Ev.indexAddrA Tryz.underlying46 ty5 (.t rfl) (.t rfl) (fun _ => zo)) ?_
    refine co (Ev.ldv ty5 (.t rfl) (Lens.comp SAddr.l_b (lArr (n := 16) u8E _ (by omega)))) ?_
    refine co (Ev.neq_u8 (.t rfl) (.c (v := U8 0) rfl)) ?_
    refine nP ?_
    first | refine condD rfl (fun h1 => ?_) (fun h1 => ?_) | refine cond rfl (fun h1 => ?_) (fun h1 => ?_)
    · try simp only [nb] at h1
      refine sg (co (Ev.assign (.c (v := I 150) rfl)) ?_)
      refine nP (ret (bR (pR (pR (bR (pR (done rfl (.tmp rfl .nil) (retE ?_))))))))
      have hne : ¬ checkA a = 0 := fun h => by
        have := (checkA_bytes a).1 h i.toNat (by omega) (by omega)
        rw [vec_getD a.b _ (by omega)] at this
        exact h1 this
      have e : checkA a = 150 := by unfold checkA at hne ⊢; split at hne <;> simp_all
      rw [e]; rfl
    · try simp only [nb] at h1
      refine skip (bN (pN (region (mv rfl (co (Ev.add_i (.t rfl) (.c (v := I 1) rfl) (fun _ => zo)) ?_)))))
      refine asn rfl (nP (nx (X := Int) (i + 1) ⟨?_, ?_⟩ ?_))
      · try dsimp only
        omega
      · try dsimp only
        intro k h1a h2a
        by_cases e : (k : Int) < i
        · exact hz k h1a e
        · obtain rfl : k = i.toNat := by omega
          rw [vec_getD a.b _ (by omega)]
          simpa using h1
      · try dsimp only
        omega
  · try simp only [nb] at h0
    refine exit (pX (pX (bX (pN (sg (co (Ev.assign (.c (v := I 0) rfl)) ?_))))))
    refine nP (ret (done rfl (.tmp rfl .nil) (retE ?_)))
    have e : checkA a = 0 := (checkA_bytes a).2 (fun k hk1 hk2 => hz k hk1 (by omega))
    rw [e]; rfl
theorem checkP_15 (p : SPrefix) : checkP p = 0 ↔ checkA p.addr = 0 ∧ 0 ≤ p.bits ∧ p.bits ≤ wd p.addr ∧ ∀ i : Int, p.bits ≤ i → i < wd p.addr → ¬ bitU p.addr.b.toList i = 1 := by
  have hw := wd_le p.addr
  have h01 : ∀ i, bitU p.addr.b.toList i = 0 ∨ bitU p.addr.b.toList i = 1 := fun i => by
    have : ∀ x : UInt8, x &&& 1 = 0 ∨ x &&& 1 = 1 := fun x => by
      have h : (x &&& 1).toNat = x.toNat % 2 := by
        rw [UInt8.toNat_and]
        exact Nat.and_one_is_mod _
      rcases Nat.mod_two_eq_zero_or_one x.toNat with h2 | h2
      · exact .inl (UInt8.toNat_inj.1 (by rw [h, h2]; rfl))
      · exact .inr (UInt8.toNat_inj.1 (by rw [h, h2]; rfl))
    exact this _
  rw [checkP_zero, checkA_zero]
  constructor
  · rintro ⟨h1, h2, h3⟩
    refine ⟨fun i hi hj => h3 i (by omega) hj, h1, h2, fun i hi hj e => ?_⟩
    rw [h3 i hi (by omega)] at e
    exact absurd e (by decide)
  · rintro ⟨h1, h2, h3, h4⟩
    refine ⟨h2, h3, fun i hi hj => ?_⟩
    by_cases hlt : i < wd p.addr
    · exact (h01 i).resolve_right (h4 i hi hlt)
    · exact h1 i (by omega) hj
theorem checkP_or (p : SPrefix) : checkP p = 0 ∨ checkP p = 151 := by
  unfold checkP
  split <;> simp
theorem en182 : Gx.Enters Tryz.prog 182 := Gx.Enters.mk' zk
theorem en184 : Gx.Enters Tryz.prog 184 := Gx.Enters.mk' zk
theorem r15check_ok (p : SPrefix) (w : World) : Calls Tryz.prog 154 #[ePrefix.val p] w (RetV w (I (checkP p))) := by
  have hw := wd_le p.addr
  refine en0 34 Tryz.func154 ?_
  refine sg (cons (box (E := ePrefix) (.t rfl) (fun b1 => ?_)))
  refine co (Ev.assign (.c (v := I 0) rfl)) ?_
  refine nP (seq (seq (draw' zk ?_)))
  refine tk 0 rfl (fA 0 (.t rfl)) ?_
  refine tk 1 rfl (Ev.ldx p.addr ty48 (.t rfl) SPrefix.l_addr) ?_
  refine al1 2 rfl ((callv en182 (.cons (.t rfl) .nil) (fun w I => r15checkA_ok _ w) ?_))
  refine hdn (tk 3 rfl (Ev.neq_i (.t rfl) (.c (v := I 0) rfl)) ?_)
  refine tk 4 rfl (Ev.move (.t rfl)) ?_
  refine tkg 5 rfl rfl rfl (fA 17 (.t rfl)) ?_
  refine tkg 6 rfl rfl rfl (Ev.ldx p.bits ty3 (.g rfl id) SPrefix.l_bits) ?_
  refine tkg 7 rfl rfl rfl (Ev.lss_i (.g rfl id) (.c (v := I 0) rfl)) ?_
  refine tk 8 rfl (Ev.pkO (.t rfl) rfl) ?_
  refine tk 9 rfl (Ev.move (.t rfl)) ?_
  refine tkg 10 rfl rfl rfl (fA 17 (.t rfl)) ?_
  refine tkg 11 rfl rfl rfl (Ev.ldx p.bits ty3 (.g rfl id) SPrefix.l_bits) ?_
  refine tkg 12 rfl rfl rfl (fA 0 (.t rfl)) ?_
  refine tkg 13 rfl rfl rfl (Ev.ldx p.addr ty48 (.g rfl id) SPrefix.l_addr) ?_
  refine al1 14 rfl ((callg rfl rfl en183 (.cons (.g rfl id) .nil) (fun hg w I => r15width_ok _ w) ?_))
  refine hdn (tkg 15 rfl rfl rfl (Ev.gtr_i (.g rfl id) (.g rfl id)) ?_)
  refine tk 16 rfl (Ev.pkO (.t rfl) rfl) ?_
  refine ovr (pN ?_)
  first | refine condD rfl (fun h0 => ?_) (fun h0 => ?_) | refine cond rfl (fun h0 => ?_) (fun h0 => ?_)
  · refine sg (co (Ev.assign (.c (v := I 151) rfl)) ?_)
    refine nP (ret (pR (done rfl (.tmp rfl .nil) (retE ?_))))
    have e : checkP p = 151 := (checkP_or p).resolve_left (fun h => by
      have := (checkP_15 p).1 h
      simp [this.1] at h0
      omega)
    rw [e]; rfl
  · have hr : checkA p.addr = 0 ∧ 0 ≤ p.bits ∧ p.bits ≤ wd p.addr := by simpa [and_assoc] using h0
    refine skip (pN (seq (sg (co (fA 17 (.t rfl)) ?_))))
    refine co (Ev.ldx p.bits ty3 (.t rfl) SPrefix.l_bits) ?_
    refine asn rfl (nP (block (lp (X := Int) (fun x : Int => (p.bits ≤ x ∧ x ≤ wd p.addr) ∧ (∀ j : Int, p.bits ≤ j → j < x → ¬ bitU p.addr.b.toList j = 1)) (fun x : Int => [(1, true, .pointer (some ⟨b1, 0, none⟩)), (3, true, I x)]) (fun x : Int => [Var b1 ePrefix p 50]) (fun x : Int => (wd p.addr - x).toNat) (p.bits) ⟨?_, ?_⟩ (fun x hx => ?_))))
    · omega
    · intro j h1 h2; omega
    obtain ⟨i, rfl⟩ : ∃ y, y = x := ⟨x, rfl⟩
    obtain ⟨hi, hz⟩ : (p.bits ≤ i ∧ i ≤ wd p.addr) ∧ (∀ j : Int, p.bits ≤ j → j < i → ¬ bitU p.addr.b.toList j = 1) := hx
    show Sat _ _ [(1, true, .pointer (some ⟨b1, 0, none⟩)), (3, true, I i)] [Var b1 ePrefix p 50]
    refine seq (sg (mv rfl (co (fA 0 (.t rfl)) ?_)))
    refine co (Ev.ldx p.addr ty48 (.t rfl) SPrefix.l_addr) ?_
    refine cons (callv en183 (.cons (.t rfl) .nil) (fun w I => r15width_ok _ w) ?_)
    refine co (Ev.lss_i (.t rfl) (.t rfl)) ?_
    refine nP ?_
    first | refine condD rfl (fun h1 => ?_) (fun h1 => ?_) | refine cond rfl (fun h1 => ?_) (fun h1 => ?_)
    · try simp only [nb] at h1
      refine skip (pN (seq (block (sg (co (fA 0 (.t rfl)) ?_)))))
      refine co (Ev.ldx p.addr ty48 (.t rfl) SPrefix.l_addr) ?_
      refine mv rfl (cons (callv en184 (.cons (.t rfl) (.cons (.t rfl) .nil)) (fun w I => r15bit_ok _ _ w (by first | omega | (simp; omega))) ?_))
      refine nP ?_
      first | refine condD rfl (fun h2 => ?_) (fun h2 => ?_) | refine cond rfl (fun h2 => ?_) (fun h2 => ?_)
      · refine sg (co (Ev.assign (.c (v := I 151) rfl)) ?_)
        refine nP (ret (bR (pR (pR (bR (pR (done rfl (.tmp rfl .nil) (retE ?_))))))))
        have e : checkP p = 151 := (checkP_or p).resolve_left (fun h => ((checkP_15 p).1 h).2.2.2 i (by omega) (by omega) (by simpa using h2))
        rw [e]; rfl
      · refine skip (bN (pN (region (mv rfl (co (Ev.add_i (.t rfl) (.c (v := I 1) rfl) (fun _ => zo)) ?_)))))
        refine asn rfl (nP (nx (X := Int) (i + 1) ⟨?_, ?_⟩ ?_))
        · try dsimp only
          omega
        · try dsimp only
          intro j h1 h2a
          by_cases e : j = i
          · rw [e]; simpa using h2
          · exact hz j h1 (by omega)
        · try dsimp only
          omega
    · try simp only [nb] at h1
      refine exit (pX (pX (bX (pN (sg (co (Ev.assign (.c (v := I 0) rfl)) ?_))))))
      refine nP (ret (done rfl (.tmp rfl .nil) (retE ?_)))
      have e : checkP p = 0 := (checkP_15 p).2 ⟨hr.1, hr.2.1, hr.2.2, fun j h1 h2 => hz j h1 (by omega)⟩
      rw [e]; rfl
theorem rroom_ok (n : Int) (w : World) : Calls Tryz.prog 159 #[I n] w (RetV w (.bool (roomB n))) := by
  refine en0 11 Tryz.func159 ?_
  refine sg (co (Ev.assign (.c (v := .bool false) rfl)) ?_)
  refine nP (seq (sg (co (Ev.assign (.c (v := I 2) rfl)) ?_)))
  refine nP (block (lp (X := Int) (fun x : Int => (x ∈ (2048 :: rooms)) ∧ (∀ m ∈ rooms, m < x → ¬ m = n)) (fun x : Int => [(0, true, I n), (3, true, I x)]) (fun x : Int => []) (fun x : Int => (2048 - x).toNat) (2) ⟨?_, ?_⟩ (fun x hx => ?_)))
  · decide
  · have h : ∀ m ∈ rooms, ¬ m < 2 := by decide
    exact fun m hm hl => absurd hl (h m hm)
  obtain ⟨k, rfl⟩ : ∃ y, y = x := ⟨x, rfl⟩
  obtain ⟨hk, hq⟩ : (k ∈ (2048 :: rooms)) ∧ (∀ m ∈ rooms, m < k → ¬ m = n) := hx
  show Sat _ _ [(0, true, I n), (3, true, I k)] []
  refine seq (sg (mv rfl (co (Ev.leq_i (.t rfl) (.c (v := I 1024) rfl)) ?_)))
  refine nP ?_
  first | refine condD rfl (fun h0 => ?_) (fun h0 => ?_) | refine cond rfl (fun h0 => ?_) (fun h0 => ?_)
  · try simp only [nb] at h0
    have hkr : k ∈ rooms := by
      rcases List.mem_cons.1 hk with h | h
      · omega
      · exact h
    have hkb : 2 ≤ k ∧ k ≤ 1024 := by
      have : ∀ k ∈ rooms, 2 ≤ k ∧ k ≤ 1024 := by decide
      exact this k hkr
    refine skip (pN (seq (block (sg (mv rfl (mv rfl (co (Ev.eql_i (.t rfl) (.t rfl)) ?_)))))))
    refine nP ?_
    first | refine condD rfl (fun h1 => ?_) (fun h1 => ?_) | refine cond rfl (fun h1 => ?_) (fun h1 => ?_)
    · try simp only [nb] at h1
      refine sg (co (Ev.assign (.c (v := .bool true) rfl)) ?_)
      refine nP (ret (bR (pR (pR (bR (pR (done rfl (.tmp rfl .nil) (retE ?_))))))))
      have e : roomB n = true := (roomB_iff n).2 (h1 ▸ hkr)
      rw [e]; rfl
    · try simp only [nb] at h1
      refine skip (bN (pN (region (mv rfl (co (Ev.mul_i (.c (v := I 2) rfl) (.t rfl) (fun _ => zo)) ?_)))))
      refine asn rfl (nP (nx (X := Int) (2 * k) ⟨?_, ?_⟩ ?_))
      · try dsimp only
        have hs : ∀ k ∈ rooms, 2 * k ∈ (2048 :: rooms) := by decide
        exact hs k hkr
      · try dsimp only
        have hs : ∀ k ∈ rooms, ∀ m ∈ rooms, m < 2 * k → m < k ∨ m = k := by decide
        intro m hm hlt
        rcases hs k hkr m hm hlt with h | h
        · exact hq m hm h
        · rw [h]; exact h1
      · try dsimp only
        have := hkb; omega
  · try simp only [nb] at h0
    have hkt : k = 2048 := by
      rcases List.mem_cons.1 hk with h | h
      · exact h
      · have : ∀ k ∈ rooms, k ≤ 1024 := by decide
        have := this k h
        omega
    refine exit (pX (pX (bX (pN (sg (co (Ev.assign (.c (v := .bool false) rfl)) ?_))))))
    refine nP (ret (done rfl (.tmp rfl .nil) (retE ?_)))
    have e : roomB n = false := by
      rw [Bool.eq_false_iff]
      intro h
      have hm := (roomB_iff n).1 h
      have : ∀ m ∈ rooms, m < 2048 := by decide
      exact hq n hm (by rw [hkt]; exact this n hm) rfl
    rw [e]; rfl
theorem rckport_ok (c : SConf) (l : CL) (i : Int) (w : World) (hc : ConfAt w c l) (hi : 0 ≤ i ∧ i < l.ps.length) : Calls Tryz.prog 119 #[eConf.val c, I i] w (RetV w (I (portE l.ps (l.ps.getD i.toNat iE.zero) i))) := by
  have hle := hc.ps.le
  refine en0 35 Tryz.func119 ?_
  refine sg (cons (box (E := eConf) (.t rfl) (fun b1 => ?_)))
  refine co (Ev.assign (.c (v := I 0) rfl)) ?_
  refine nP (seq (sg (co (fA 0 (.t rfl)) ?_)))
  refine co (Ev.ldx c.ports ty22 (.t rfl) SConf.l_ports) ?_
  refine mv rfl (co (Ev.indexAddr Tryz.underlying22 ty3 (.t rfl) (.t rfl) (fun w I => (hc.keep0 I.keeps).ps) (fun _ => zo)) ?_)
  refine co (Ev.loadS0 ty3 (.t rfl) (fun w I => (hc.keep0 I.keeps).ps) (fun _ => zo)) ?_
  refine co (Ev.lss_i (.t rfl) (.c (v := I 0) rfl)) ?_
  refine mv rfl (cg rfl rfl (fA 0 (.t rfl)) ?_)
  refine cg rfl rfl (Ev.ldx c.ports ty22 (.g rfl id) SConf.l_ports) ?_
  refine cg rfl rfl (Ev.move (.t rfl)) ?_
  refine cg rfl rfl (Ev.indexAddr Tryz.underlying22 ty3 (.g rfl id) (.g rfl id) (fun w I => (hc.keep0 I.keeps).ps) (fun _ => by first | omega | (rename_i hg; simp at hg; omega))) ?_
  refine cg rfl rfl (Ev.loadS0 ty3 (.g rfl id) (fun w I => (hc.keep0 I.keeps).ps) (fun _ => by first | omega | (rename_i hg; simp at hg; omega))) ?_
  refine cg rfl rfl (Ev.gtr_i (.g rfl id) (.c (v := I 255) rfl)) ?_
  refine co (Ev.pkO (.t rfl) rfl) ?_
  refine nP ?_
  first | refine condD rfl (fun h0 => ?_) (fun h0 => ?_) | refine cond rfl (fun h0 => ?_) (fun h0 => ?_)
  · refine sg (co (Ev.assign (.c (v := I 5) rfl)) ?_)
    refine nP (ret (pR (done rfl (.tmp rfl .nil) (retE ?_))))
    unfold portE; rw [if_pos (by simpa using h0)]; rfl
  · refine skip (pN (seq (seq (draw' zk ?_))))
    refine tk 0 rfl (Ev.move (.t rfl)) ?_
    refine tk 1 rfl (Ev.gtr_i (.t rfl) (.c (v := I 0) rfl)) ?_
    refine tk 2 rfl (Ev.move (.t rfl)) ?_
    refine tkg 3 rfl rfl rfl (fA 0 (.t rfl)) ?_
    refine tkg 4 rfl rfl rfl (Ev.ldx c.ports ty22 (.g rfl id) SConf.l_ports) ?_
    refine tkg 5 rfl rfl rfl (Ev.move (.t rfl)) ?_
    refine tkg 6 rfl rfl rfl (Ev.indexAddr Tryz.underlying22 ty3 (.g rfl id) (.g rfl id) (fun w I => (hc.keep0 I.keeps).ps) (fun _ => by first | omega | (rename_i hg; simp at hg; omega))) ?_
    refine tkg 7 rfl rfl rfl (Ev.loadS0 ty3 (.g rfl id) (fun w I => (hc.keep0 I.keeps).ps) (fun _ => by first | omega | (rename_i hg; simp at hg; omega))) ?_
    refine tkg 8 rfl rfl rfl (fA 0 (.t rfl)) ?_
    refine tkg 9 rfl rfl rfl (Ev.ldx c.ports ty22 (.g rfl id) SConf.l_ports) ?_
    refine tkg 10 rfl rfl rfl (Ev.move (.t rfl)) ?_
    refine tkg 11 rfl rfl rfl (Ev.sub_i (.g rfl id) (.c (v := I 1) rfl) (fun _ => by first | omega | (rename_i hg; simp at hg; omega))) ?_
    refine tkg 12 rfl rfl rfl (Ev.indexAddr Tryz.underlying22 ty3 (.g rfl id) (.g rfl id) (fun w I => (hc.keep0 I.keeps).ps) (fun _ => by first | omega | (rename_i hg; simp at hg; omega))) ?_
    refine tkg 13 rfl rfl rfl (Ev.loadS0 ty3 (.g rfl id) (fun w I => (hc.keep0 I.keeps).ps) (fun _ => by first | omega | (rename_i hg; simp at hg; omega))) ?_
    refine tkg 14 rfl rfl rfl (Ev.leq_i (.g rfl id) (.g rfl id)) ?_
    refine tk 15 rfl (Ev.pkA (.t rfl) rfl) ?_
    refine ovr (pN ?_)
    first | refine condD rfl (fun h1 => ?_) (fun h1 => ?_) | refine cond rfl (fun h1 => ?_) (fun h1 => ?_)
    · refine sg (co (Ev.assign (.c (v := I 2) rfl)) ?_)
      refine nP (ret (pR (done rfl (.tmp rfl .nil) (retE ?_))))
      have ez : (iE.zero : Int) = 0 := rfl
      unfold portE; rw [if_neg (by simpa using h0), if_pos (by simpa [ez] using h1)]; rfl
    · refine skip (pN (sg (co (Ev.assign (.c (v := I 0) rfl)) ?_)))
      refine nP (ret (done rfl (.tmp rfl .nil) (retE ?_)))
      have ez : (iE.zero : Int) = 0 := rfl
      unfold portE; rw [if_neg (by simpa using h0), if_neg (by simpa [ez] using h1)]; rfl
theorem en154 : Gx.Enters Tryz.prog 154 := Gx.Enters.mk' zk
theorem en124 : Gx.Enters Tryz.prog 124 := Gx.Enters.mk' zk
theorem en125 : Gx.Enters Tryz.prog 125 := Gx.Enters.mk' zk
theorem rckroute_ok (c : SConf) (l : CL) (i : Int) (w : World) (hc : ConfAt w c l) (hi : 0 ≤ i ∧ i < l.rs.length) : Calls Tryz.prog 120 #[eConf.val c, I i] w (RetV w (I (routeE l (l.rs.getD i.toNat eRoute.zero) i))) := by
  have hle := hc.rs.le
  have hix := find_at SPrefix.eqb_iff (fun r => r.to_) l.rs eRoute.zero i.toNat (by omega)
  have hix3 : (findV SPrefix.eqb (l.rs.getD i.toNat eRoute.zero).to_ (routesM l)).getD 0 = idxF (fun z => SPrefix.eqb z.to_ (l.rs.getD i.toNat eRoute.zero).to_) l.rs := hix
  refine en0 26 Tryz.func120 ?_
  refine sg (cons (box (E := eConf) (.t rfl) (fun b1 => ?_)))
  refine co (Ev.assign (.c (v := I 0) rfl)) ?_
  refine nP (sg (co (fA 1 (.t rfl)) ?_))
  refine co (Ev.ldx c.routes ty23 (.t rfl) SConf.l_routes) ?_
  refine mv rfl (co (Ev.indexAddr Tryz.underlying23 ty52 (.t rfl) (.t rfl) (fun w I => (hc.keep0 I.keeps).rs) (fun _ => zo)) ?_)
  refine co (Ev.loadS0 ty52 (.t rfl) (fun w I => (hc.keep0 I.keeps).rs) (fun _ => zo)) ?_
  refine cons (alloc z52 (fun b2 => ?_))
  refine cons (stv ty52 (Lens.id _) (.t rfl) (.t rfl) ?_)
  refine nP (seq (sg (co (fA 0 (.t rfl)) ?_)))
  refine co (Ev.ldv ty50 (.t rfl) SRoute.l_to_) ?_
  refine cons (callv en154 (.cons (.t rfl) .nil) (fun w I => r15check_ok _ w) ?_)
  refine co (Ev.neq_i (.t rfl) (.c (v := I 0) rfl)) ?_
  refine nP ?_
  first | refine condD rfl (fun h0 => ?_) (fun h0 => ?_) | refine cond rfl (fun h0 => ?_) (fun h0 => ?_)
  · refine sg (co (Ev.assign (.c (v := I 151) rfl)) ?_)
    refine nP (ret (pR (done rfl (.tmp rfl .nil) (retE ?_))))
    have p0 : checkP (l.rs.getD i.toNat eRoute.zero).to_ ≠ 0 := by simpa using h0
    unfold routeE
    rw [if_pos p0]
    rfl
  · refine skip (pN (seq (sg (co (Ev.ldx c ty28 (.t rfl) (Lens.id _)) ?_))))
    refine co (fA 18 (.t rfl)) ?_
    refine co (Ev.ldv ty3 (.t rfl) SRoute.l_out) ?_
    refine cons (callv en124 (.cons (.t rfl) (.cons (.t rfl) .nil)) (fun w I => rport_ok c l _ w (hc.keep0 I.keeps)) ?_)
    refine co (Ev.not (.t rfl)) ?_
    refine nP ?_
    first | refine condD rfl (fun h1 => ?_) (fun h1 => ?_) | refine cond rfl (fun h1 => ?_) (fun h1 => ?_)
    · refine sg (co (Ev.assign (.c (v := I 5) rfl)) ?_)
      refine nP (ret (pR (done rfl (.tmp rfl .nil) (retE ?_))))
      have n0 : ¬ (checkP (l.rs.getD i.toNat eRoute.zero).to_ ≠ 0) := by simpa using h0
      have p1 : portB l (l.rs.getD i.toNat eRoute.zero).out = false := by simpa using h1
      unfold routeE
      rw [if_neg n0, if_pos p1]
      rfl
    · refine skip (pN (seq (sg (co (Ev.ldx c ty28 (.t rfl) (Lens.id _)) ?_))))
      refine co (fA 0 (.t rfl)) ?_
      refine co (Ev.ldv ty50 (.t rfl) SRoute.l_to_) ?_
      refine cons (callv en125 (.cons (.t rfl) (.cons (.t rfl) .nil)) (fun w I => rroute_ix c l _ w (hc.keep0 I.keeps)) ?_)
      refine mv rfl (co (Ev.lss_i (.t rfl) (.t rfl)) ?_)
      refine nP ?_
      first | refine condD rfl (fun h2 => ?_) (fun h2 => ?_) | refine cond rfl (fun h2 => ?_) (fun h2 => ?_)
      · refine sg (co (Ev.assign (.c (v := I 2) rfl)) ?_)
        refine nP (ret (pR (done rfl (.tmp rfl .nil) (retE ?_))))
        have n0 : ¬ (checkP (l.rs.getD i.toNat eRoute.zero).to_ ≠ 0) := by simpa using h0
        have n1 : ¬ (portB l (l.rs.getD i.toNat eRoute.zero).out = false) := by simpa using h1
        have p2 : (findV SPrefix.eqb (l.rs.getD i.toNat eRoute.zero).to_ (routesM l)).getD 0 < i := by rw [hix3]; simpa using h2
        unfold routeE
        rw [if_neg n0, if_neg n1, if_pos p2]
        rfl
      · refine skip (pN (sg (co (Ev.assign (.c (v := I 0) rfl)) ?_)))
        refine nP (ret (done rfl (.tmp rfl .nil) (retE ?_)))
        have n0 : ¬ (checkP (l.rs.getD i.toNat eRoute.zero).to_ ≠ 0) := by simpa using h0
        have n1 : ¬ (portB l (l.rs.getD i.toNat eRoute.zero).out = false) := by simpa using h1
        have n2 : ¬ ((findV SPrefix.eqb (l.rs.getD i.toNat eRoute.zero).to_ (routesM l)).getD 0 < i) := by rw [hix3]; simpa using h2
        unfold routeE
        rw [if_neg n0, if_neg n1, if_neg n2]
        rfl
theorem en155 : Gx.Enters Tryz.prog 155 := Gx.Enters.mk' zk
theorem en126 : Gx.Enters Tryz.prog 126 := Gx.Enters.mk' zk
theorem en158 : Gx.Enters Tryz.prog 158 := Gx.Enters.mk' zk
theorem rckmeter_ok (c : SConf) (l : CL) (i : Int) (w : World) (hc : ConfAt w c l) (hi : 0 ≤ i ∧ i < l.ms.length) (hn : l.Names) : Calls Tryz.prog 122 #[eConf.val c, I i] w (RetV w (I (meterE l (l.ms.getD i.toNat eMeterConf.zero) i))) := by
  have hle := hc.ms.le
  have hs := hn.ms (l.ms.getD i.toNat eMeterConf.zero) (getD_in _ _ _ (by omega))
  have hix := find_at eqs_iff (fun r => r.name) l.ms eMeterConf.zero i.toNat (by omega)
  have hix3 := by
    have hix2 : (findV eqs (l.ms.getD i.toNat eMeterConf.zero).name (metersM l)).getD 0 = idxF (fun z => decide (z.name = (l.ms.getD i.toNat eMeterConf.zero).name)) l.ms := by
      refine hix.trans (congrArg (fun p => idxF p l.ms) (funext fun z => eqs_dec _ _))
    exact hix2
  refine en0 27 Tryz.func122 ?_
  refine sg (cons (box (E := eConf) (.t rfl) (fun b1 => ?_)))
  refine co (Ev.assign (.c (v := I 0) rfl)) ?_
  refine nP (sg (co (fA 3 (.t rfl)) ?_))
  refine co (Ev.ldx c.meters ty25 (.t rfl) SConf.l_meters) ?_
  refine mv rfl (co (Ev.indexAddr Tryz.underlying25 ty57 (.t rfl) (.t rfl) (fun w I => (hc.keep0 I.keeps).ms) (fun _ => zo)) ?_)
  refine co (Ev.loadS0 ty57 (.t rfl) (fun w I => (hc.keep0 I.keeps).ms) (fun _ => zo)) ?_
  refine cons (alloc z57 (fun b2 => ?_))
  refine cons (stv ty57 (Lens.id _) (.t rfl) (.t rfl) ?_)
  refine nP (seq (sg (co (fA 0 (.t rfl)) ?_)))
  refine co (Ev.ldv ty9 (.t rfl) SMeterConf.l_name) ?_
  refine cons (callv en155 (.cons (.t rfl) .nil) (fun w I => rname_ok _ w hs) ?_)
  refine co (Ev.not (.t rfl)) ?_
  refine nP ?_
  first | refine condD rfl (fun h0 => ?_) (fun h0 => ?_) | refine cond rfl (fun h0 => ?_) (fun h0 => ?_)
  · refine sg (co (Ev.assign (.c (v := I 201) rfl)) ?_)
    refine nP (ret (pR (done rfl (.tmp rfl .nil) (retE ?_))))
    have p0 : nameB (l.ms.getD i.toNat eMeterConf.zero).name = false := by simpa using h0
    unfold meterE
    rw [if_pos p0]
    rfl
  · refine skip (pN (seq (sg (co (Ev.ldx c ty28 (.t rfl) (Lens.id _)) ?_))))
    refine co (fA 0 (.t rfl)) ?_
    refine co (Ev.ldv ty9 (.t rfl) SMeterConf.l_name) ?_
    refine cons (callv en126 (.cons (.t rfl) (.cons (.t rfl) .nil)) (fun w I => rmeter_ix c l _ w (hc.keep0 I.keeps)) ?_)
    refine mv rfl (co (Ev.lss_i (.t rfl) (.t rfl)) ?_)
    refine mv rfl (cg rfl rfl (fA 1 (.t rfl)) ?_)
    refine cg rfl rfl (Ev.ldv ty55 (.g rfl id) SMeterConf.l_bucket) ?_
    refine cons (callg rfl rfl en158 (.cons (.g rfl id) .nil) (fun hg w I => rbucket_ok _ w) ?_)
    refine cg rfl rfl (Ev.neq_i (.g rfl id) (.c (v := I 0) rfl)) ?_
    refine co (Ev.pkO (.t rfl) rfl) ?_
    refine nP ?_
    first | refine condD rfl (fun h1 => ?_) (fun h1 => ?_) | refine cond rfl (fun h1 => ?_) (fun h1 => ?_)
    · refine sg (co (Ev.assign (.c (v := I 2) rfl)) ?_)
      refine nP (ret (pR (done rfl (.tmp rfl .nil) (retE ?_))))
      have n0 : ¬ (nameB (l.ms.getD i.toNat eMeterConf.zero).name = false) := by simpa using h0
      have p1 : (findV eqs (l.ms.getD i.toNat eMeterConf.zero).name (metersM l)).getD 0 < i ∨ ckB (l.ms.getD i.toNat eMeterConf.zero).bucket ≠ 0 := by rw [hix3]; simpa using h1
      unfold meterE
      rw [if_neg n0, if_pos p1]
      rfl
    · refine skip (pN (sg (co (Ev.assign (.c (v := I 0) rfl)) ?_)))
      refine nP (ret (done rfl (.tmp rfl .nil) (retE ?_)))
      have n0 : ¬ (nameB (l.ms.getD i.toNat eMeterConf.zero).name = false) := by simpa using h0
      have n1 : ¬ ((findV eqs (l.ms.getD i.toNat eMeterConf.zero).name (metersM l)).getD 0 < i ∨ ckB (l.ms.getD i.toNat eMeterConf.zero).bucket ≠ 0) := by rw [hix3]; simpa using h1
      unfold meterE
      rw [if_neg n0, if_neg n1]
      rfl
theorem en127 : Gx.Enters Tryz.prog 127 := Gx.Enters.mk' zk
theorem en159 : Gx.Enters Tryz.prog 159 := Gx.Enters.mk' zk
theorem rckmirror_ok (c : SConf) (l : CL) (i : Int) (w : World) (hc : ConfAt w c l) (hi : 0 ≤ i ∧ i < l.xs.length) (hn : l.Names) : Calls Tryz.prog 123 #[eConf.val c, I i] w (RetV w (I (mirrorE l (l.xs.getD i.toNat eMirrorConf.zero) i))) := by
  have hle := hc.xs.le
  have hs := hn.xs (l.xs.getD i.toNat eMirrorConf.zero) (getD_in _ _ _ (by omega))
  have hix := find_at eqs_iff (fun r => r.name) l.xs eMirrorConf.zero i.toNat (by omega)
  have hix3 := by
    have hix2 : (findV eqs (l.xs.getD i.toNat eMirrorConf.zero).name (mirrorsM l)).getD 0 = idxF (fun z => decide (z.name = (l.xs.getD i.toNat eMirrorConf.zero).name)) l.xs := by
      refine hix.trans (congrArg (fun p => idxF p l.xs) (funext fun z => eqs_dec _ _))
    exact hix2
  refine en0 30 Tryz.func123 ?_
  refine sg (cons (box (E := eConf) (.t rfl) (fun b1 => ?_)))
  refine co (Ev.assign (.c (v := I 0) rfl)) ?_
  refine nP (sg (co (fA 4 (.t rfl)) ?_))
  refine co (Ev.ldx c.mirrors ty26 (.t rfl) SConf.l_mirrors) ?_
  refine mv rfl (co (Ev.indexAddr Tryz.underlying26 ty59 (.t rfl) (.t rfl) (fun w I => (hc.keep0 I.keeps).xs) (fun _ => zo)) ?_)
  refine co (Ev.loadS0 ty59 (.t rfl) (fun w I => (hc.keep0 I.keeps).xs) (fun _ => zo)) ?_
  refine cons (alloc z59 (fun b2 => ?_))
  refine cons (stv ty59 (Lens.id _) (.t rfl) (.t rfl) ?_)
  refine nP (seq (sg (co (fA 0 (.t rfl)) ?_)))
  refine co (Ev.ldv ty9 (.t rfl) SMirrorConf.l_name) ?_
  refine cons (callv en155 (.cons (.t rfl) .nil) (fun w I => rname_ok _ w hs) ?_)
  refine co (Ev.not (.t rfl)) ?_
  refine nP ?_
  first | refine condD rfl (fun h0 => ?_) (fun h0 => ?_) | refine cond rfl (fun h0 => ?_) (fun h0 => ?_)
  · refine sg (co (Ev.assign (.c (v := I 201) rfl)) ?_)
    refine nP (ret (pR (done rfl (.tmp rfl .nil) (retE ?_))))
    have p0 : nameB (l.xs.getD i.toNat eMirrorConf.zero).name = false := by simpa using h0
    unfold mirrorE
    rw [if_pos p0]
    rfl
  · refine skip (pN (seq (sg (co (Ev.ldx c ty28 (.t rfl) (Lens.id _)) ?_))))
    refine co (fA 0 (.t rfl)) ?_
    refine co (Ev.ldv ty9 (.t rfl) SMirrorConf.l_name) ?_
    refine cons (callv en127 (.cons (.t rfl) (.cons (.t rfl) .nil)) (fun w I => rmirror_ix c l _ w (hc.keep0 I.keeps)) ?_)
    refine mv rfl (co (Ev.lss_i (.t rfl) (.t rfl)) ?_)
    refine nP ?_
    first | refine condD rfl (fun h1 => ?_) (fun h1 => ?_) | refine cond rfl (fun h1 => ?_) (fun h1 => ?_)
    · refine sg (co (Ev.assign (.c (v := I 2) rfl)) ?_)
      refine nP (ret (pR (done rfl (.tmp rfl .nil) (retE ?_))))
      have n0 : ¬ (nameB (l.xs.getD i.toNat eMirrorConf.zero).name = false) := by simpa using h0
      have p1 : (findV eqs (l.xs.getD i.toNat eMirrorConf.zero).name (mirrorsM l)).getD 0 < i := by rw [hix3]; simpa using h1
      unfold mirrorE
      rw [if_neg n0, if_pos p1]
      rfl
    · refine skip (pN (seq (sg (co (Ev.ldx c ty28 (.t rfl) (Lens.id _)) ?_))))
      refine co (fA 1 (.t rfl)) ?_
      refine co (Ev.ldv ty3 (.t rfl) SMirrorConf.l_out) ?_
      refine cons (callv en124 (.cons (.t rfl) (.cons (.t rfl) .nil)) (fun w I => rport_ok c l _ w (hc.keep0 I.keeps)) ?_)
      refine co (Ev.not (.t rfl)) ?_
      refine nP ?_
      first | refine condD rfl (fun h2 => ?_) (fun h2 => ?_) | refine cond rfl (fun h2 => ?_) (fun h2 => ?_)
      · refine sg (co (Ev.assign (.c (v := I 5) rfl)) ?_)
        refine nP (ret (pR (done rfl (.tmp rfl .nil) (retE ?_))))
        have n0 : ¬ (nameB (l.xs.getD i.toNat eMirrorConf.zero).name = false) := by simpa using h0
        have n1 : ¬ ((findV eqs (l.xs.getD i.toNat eMirrorConf.zero).name (mirrorsM l)).getD 0 < i) := by rw [hix3]; simpa using h1
        have p2 : portB l (l.xs.getD i.toNat eMirrorConf.zero).out = false := by simpa using h2
        unfold mirrorE
        rw [if_neg n0, if_neg n1, if_pos p2]
        rfl
      · refine skip (pN (seq (sg (co (fA 2 (.t rfl)) ?_))))
        refine co (Ev.ldv ty3 (.t rfl) SMirrorConf.l_room) ?_
        refine cons (callv en159 (.cons (.t rfl) .nil) (fun w I => rroom_ok _ w) ?_)
        refine co (Ev.not (.t rfl)) ?_
        refine nP ?_
        first | refine condD rfl (fun h3 => ?_) (fun h3 => ?_) | refine cond rfl (fun h3 => ?_) (fun h3 => ?_)
        · refine sg (co (Ev.assign (.c (v := I 2) rfl)) ?_)
          refine nP (ret (pR (done rfl (.tmp rfl .nil) (retE ?_))))
          have n0 : ¬ (nameB (l.xs.getD i.toNat eMirrorConf.zero).name = false) := by simpa using h0
          have n1 : ¬ ((findV eqs (l.xs.getD i.toNat eMirrorConf.zero).name (mirrorsM l)).getD 0 < i) := by rw [hix3]; simpa using h1
          have n2 : ¬ (portB l (l.xs.getD i.toNat eMirrorConf.zero).out = false) := by simpa using h2
          have p3 : roomB (l.xs.getD i.toNat eMirrorConf.zero).room = false := by simpa using h3
          unfold mirrorE
          rw [if_neg n0, if_neg n1, if_neg n2, if_pos p3]
          rfl
        · refine skip (pN (sg (co (Ev.assign (.c (v := I 0) rfl)) ?_)))
          refine nP (ret (done rfl (.tmp rfl .nil) (retE ?_)))
          have n0 : ¬ (nameB (l.xs.getD i.toNat eMirrorConf.zero).name = false) := by simpa using h0
          have n1 : ¬ ((findV eqs (l.xs.getD i.toNat eMirrorConf.zero).name (mirrorsM l)).getD 0 < i) := by rw [hix3]; simpa using h1
          have n2 : ¬ (portB l (l.xs.getD i.toNat eMirrorConf.zero).out = false) := by simpa using h2
          have n3 : ¬ (roomB (l.xs.getD i.toNat eMirrorConf.zero).room = false) := by simpa using h3
          unfold mirrorE
          rw [if_neg n0, if_neg n1, if_neg n2, if_neg n3]
          rfl
theorem en156 : Gx.Enters Tryz.prog 156 := Gx.Enters.mk' zk
theorem en157 : Gx.Enters Tryz.prog 157 := Gx.Enters.mk' zk
theorem rckrule_ok (c : SConf) (l : CL) (i : Int) (w : World) (hc : ConfAt w c l) (hi : 0 ≤ i ∧ i < l.us.length) (hn : l.Names) : Calls Tryz.prog 121 #[eConf.val c, I i] w (RetV w (I (ruleE l (l.us.getD i.toNat eRule.zero) i))) := by
  have hle := hc.us.le
  have hs := hn.us (l.us.getD i.toNat eRule.zero) (getD_in _ _ _ (by omega))
  have hix := find_at eqs_iff (fun r => r.name) l.us eRule.zero i.toNat (by omega)
  have hix3 := by
    have hix2 : (findV eqs (l.us.getD i.toNat eRule.zero).name (rulesM l)).getD 0 = idxF (fun z => decide (z.name = (l.us.getD i.toNat eRule.zero).name)) l.us := by
      refine hix.trans (congrArg (fun p => idxF p l.us) (funext fun z => eqs_dec _ _))
    exact hix2
  have hm_meter : inM (metersM l) (l.us.getD i.toNat eRule.zero).meter = decide (¬ idxF (fun z => decide (z.name = (l.us.getD i.toNat eRule.zero).meter)) l.ms < 0) := by
    unfold inM metersM
    rw [find_idx eqs_iff]
    simp only [eqs_dec]
  have hm_mirror : inM (mirrorsM l) (l.us.getD i.toNat eRule.zero).mirror = decide (¬ idxF (fun z => decide (z.name = (l.us.getD i.toNat eRule.zero).mirror)) l.xs < 0) := by
    unfold inM mirrorsM
    rw [find_idx eqs_iff]
    simp only [eqs_dec]
  refine en0 75 Tryz.func121 ?_
  refine sg (cons (box (E := eConf) (.t rfl) (fun b1 => ?_)))
  refine co (Ev.assign (.c (v := I 0) rfl)) ?_
  refine nP (sg (co (fA 2 (.t rfl)) ?_))
  refine co (Ev.ldx c.rules ty24 (.t rfl) SConf.l_rules) ?_
  refine mv rfl (co (Ev.indexAddr Tryz.underlying24 ty76 (.t rfl) (.t rfl) (fun w I => (hc.keep0 I.keeps).us) (fun _ => zo)) ?_)
  refine co (Ev.loadS0 ty76 (.t rfl) (fun w I => (hc.keep0 I.keeps).us) (fun _ => zo)) ?_
  refine cons (alloc z76 (fun b2 => ?_))
  refine cons (stv ty76 (Lens.id _) (.t rfl) (.t rfl) ?_)
  refine nP (seq (sg (co (fA 0 (.t rfl)) ?_)))
  refine co (Ev.ldv ty9 (.t rfl) SRule.l_name) ?_
  refine cons (callv en155 (.cons (.t rfl) .nil) (fun w I => rname_ok _ w hs) ?_)
  refine co (Ev.not (.t rfl)) ?_
  refine nP ?_
  first | refine condD rfl (fun h0 => ?_) (fun h0 => ?_) | refine cond rfl (fun h0 => ?_) (fun h0 => ?_)
  · refine sg (co (Ev.assign (.c (v := I 201) rfl)) ?_)
    refine nP (ret (pR (done rfl (.tmp rfl .nil) (retE ?_))))
    have p0 : nameB (l.us.getD i.toNat eRule.zero).name = false := by simpa using h0
    unfold ruleE
    rw [if_pos p0]
    rfl
  · refine skip (pN (seq (sg (co (Ev.ldx c ty28 (.t rfl) (Lens.id _)) ?_))))
    refine co (fA 0 (.t rfl)) ?_
    refine co (Ev.ldv ty9 (.t rfl) SRule.l_name) ?_
    refine cons (callv en156 (.cons (.t rfl) (.cons (.t rfl) .nil)) (fun w I => rrule_ix c l _ w (hc.keep0 I.keeps)) ?_)
    refine mv rfl (co (Ev.lss_i (.t rfl) (.t rfl)) ?_)
    refine nP ?_
    first | refine condD rfl (fun h1 => ?_) (fun h1 => ?_) | refine cond rfl (fun h1 => ?_) (fun h1 => ?_)
    · refine sg (co (Ev.assign (.c (v := I 2) rfl)) ?_)
      refine nP (ret (pR (done rfl (.tmp rfl .nil) (retE ?_))))
      have n0 : ¬ (nameB (l.us.getD i.toNat eRule.zero).name = false) := by simpa using h0
      have p1 : (findV eqs (l.us.getD i.toNat eRule.zero).name (rulesM l)).getD 0 < i := by rw [hix3]; simpa using h1
      unfold ruleE
      rw [if_neg n0, if_pos p1]
      rfl
    · refine skip (pN (seq (sg (co (fA 1 (.t rfl)) ?_))))
      refine co (Ev.ldv ty74 (.t rfl) SRule.l_match_) ?_
      refine cons (callv en157 (.cons (.t rfl) .nil) (fun w I => rcheck_ok _ w) ?_)
      refine co (Ev.not (.t rfl)) ?_
      refine nP ?_
      first | refine condD rfl (fun h2 => ?_) (fun h2 => ?_) | refine cond rfl (fun h2 => ?_) (fun h2 => ?_)
      · refine sg (co (Ev.assign (.c (v := I 190) rfl)) ?_)
        refine nP (ret (pR (done rfl (.tmp rfl .nil) (retE ?_))))
        have n0 : ¬ (nameB (l.us.getD i.toNat eRule.zero).name = false) := by simpa using h0
        have n1 : ¬ ((findV eqs (l.us.getD i.toNat eRule.zero).name (rulesM l)).getD 0 < i) := by rw [hix3]; simpa using h1
        have p2 : okM (l.us.getD i.toNat eRule.zero).match_ = false := by simpa using h2
        unfold ruleE
        rw [if_neg n0, if_neg n1, if_pos p2]
        rfl
      · refine skip (pN (seq (sg (co (fA 45 (.t rfl)) ?_))))
        refine co (Ev.ldv ty3 (.t rfl) SRule.l_action) ?_
        refine co (Ev.lss_i (.t rfl) (.c (v := I 1) rfl)) ?_
        refine mv rfl (cg rfl rfl (fA 45 (.t rfl)) ?_)
        refine cg rfl rfl (Ev.ldv ty3 (.g rfl id) SRule.l_action) ?_
        refine cg rfl rfl (Ev.gtr_i (.g rfl id) (.c (v := I 4) rfl)) ?_
        refine co (Ev.pkO (.t rfl) rfl) ?_
        refine nP ?_
        first | refine condD rfl (fun h3 => ?_) (fun h3 => ?_) | refine cond rfl (fun h3 => ?_) (fun h3 => ?_)
        · refine sg (co (Ev.assign (.c (v := I 2) rfl)) ?_)
          refine nP (ret (pR (done rfl (.tmp rfl .nil) (retE ?_))))
          have n0 : ¬ (nameB (l.us.getD i.toNat eRule.zero).name = false) := by simpa using h0
          have n1 : ¬ ((findV eqs (l.us.getD i.toNat eRule.zero).name (rulesM l)).getD 0 < i) := by rw [hix3]; simpa using h1
          have n2 : ¬ (okM (l.us.getD i.toNat eRule.zero).match_ = false) := by simpa using h2
          have p3 : (l.us.getD i.toNat eRule.zero).action < 1 ∨ 4 < (l.us.getD i.toNat eRule.zero).action := by simpa using h3
          unfold ruleE
          rw [if_neg n0, if_neg n1, if_neg n2, if_pos p3]
          rfl
        · refine skip (pN (seq (sg (co (fA 45 (.t rfl)) ?_))))
          refine co (Ev.ldv ty3 (.t rfl) SRule.l_action) ?_
          refine co (Ev.eql_i (.t rfl) (.c (v := I 3) rfl)) ?_
          refine mv rfl (cg rfl rfl (Ev.ldx c ty28 (.t rfl) (Lens.id _)) ?_)
          refine cg rfl rfl (fA 46 (.t rfl)) ?_
          refine cg rfl rfl (Ev.ldv ty3 (.g rfl id) SRule.l_out) ?_
          refine cons (callg rfl rfl en124 (.cons (.g rfl id) (.cons (.g rfl id) .nil)) (fun hg w I => rport_ok c l _ w (hc.keep0 I.keeps)) ?_)
          refine cg rfl rfl (Ev.not (.g rfl id)) ?_
          refine co (Ev.pkA (.t rfl) rfl) ?_
          refine mv rfl (cg rfl rfl (fA 45 (.t rfl)) ?_)
          refine cg rfl rfl (Ev.ldv ty3 (.g rfl id) SRule.l_action) ?_
          refine cg rfl rfl (Ev.neq_i (.g rfl id) (.c (v := I 3) rfl)) ?_
          refine cg rfl rfl (Ev.move (.g rfl id)) ?_
          refine cg rfl rfl (fA 46 (.t rfl)) ?_
          refine cg rfl rfl (Ev.ldv ty3 (.g rfl id) SRule.l_out) ?_
          refine cg rfl rfl (Ev.neq_i (.g rfl id) (.c (v := I 0) rfl)) ?_
          refine cg rfl rfl (Ev.pkA (.g rfl id) rfl) ?_
          refine co (Ev.pkO (.t rfl) rfl) ?_
          refine nP ?_
          first | refine condD rfl (fun h4 => ?_) (fun h4 => ?_) | refine cond rfl (fun h4 => ?_) (fun h4 => ?_)
          · refine sg (co (Ev.assign (.c (v := I 5) rfl)) ?_)
            refine nP (ret (pR (done rfl (.tmp rfl .nil) (retE ?_))))
            have n0 : ¬ (nameB (l.us.getD i.toNat eRule.zero).name = false) := by simpa using h0
            have n1 : ¬ ((findV eqs (l.us.getD i.toNat eRule.zero).name (rulesM l)).getD 0 < i) := by rw [hix3]; simpa using h1
            have n2 : ¬ (okM (l.us.getD i.toNat eRule.zero).match_ = false) := by simpa using h2
            have n3 : ¬ ((l.us.getD i.toNat eRule.zero).action < 1 ∨ 4 < (l.us.getD i.toNat eRule.zero).action) := by simpa using h3
            have p4 : ruleO l (l.us.getD i.toNat eRule.zero) = true := by unfold ruleO; by_cases ea : (l.us.getD i.toNat eRule.zero).action = 3 <;> simp_all
            unfold ruleE
            rw [if_neg n0, if_neg n1, if_neg n2, if_neg n3, if_pos p4]
            rfl
          · refine skip (pN (seq (sg (co (fA 47 (.t rfl)) ?_))))
            refine co (Ev.ldv ty9 (.t rfl) SRule.l_meter) ?_
            refine co (Ev.neq_s (.t rfl) (.c (v := (Go.Value.string (ByteArray.mk #[]))) rfl)) ?_
            refine mv rfl (cg rfl rfl (Ev.ldx c ty28 (.t rfl) (Lens.id _)) ?_)
            refine cg rfl rfl (fA 47 (.t rfl)) ?_
            refine cg rfl rfl (Ev.ldv ty9 (.g rfl id) SRule.l_meter) ?_
            refine cons (callg rfl rfl en126 (.cons (.g rfl id) (.cons (.g rfl id) .nil)) (fun hg w I => rmeter_ix c l _ w (hc.keep0 I.keeps)) ?_)
            refine cg rfl rfl (Ev.lss_i (.g rfl id) (.c (v := I 0) rfl)) ?_
            refine co (Ev.pkA (.t rfl) rfl) ?_
            refine mv rfl (cg rfl rfl (fA 48 (.t rfl)) ?_)
            refine cg rfl rfl (Ev.ldv ty9 (.g rfl id) SRule.l_mirror) ?_
            refine cg rfl rfl (Ev.neq_s (.g rfl id) (.c (v := (Go.Value.string (ByteArray.mk #[]))) rfl)) ?_
            refine cg rfl rfl (Ev.move (.g rfl id)) ?_
            refine cg rfl rfl (Ev.ldx c ty28 (.t rfl) (Lens.id _)) ?_
            refine cg rfl rfl (fA 48 (.t rfl)) ?_
            refine cg rfl rfl (Ev.ldv ty9 (.g rfl id) SRule.l_mirror) ?_
            refine cons (callg rfl rfl en127 (.cons (.g rfl id) (.cons (.g rfl id) .nil)) (fun hg w I => rmirror_ix c l _ w (hc.keep0 I.keeps)) ?_)
            refine cg rfl rfl (Ev.lss_i (.g rfl id) (.c (v := I 0) rfl)) ?_
            refine cg rfl rfl (Ev.pkA (.g rfl id) rfl) ?_
            refine co (Ev.pkO (.t rfl) rfl) ?_
            refine nP ?_
            first | refine condD rfl (fun h5 => ?_) (fun h5 => ?_) | refine cond rfl (fun h5 => ?_) (fun h5 => ?_)
            · refine sg (co (Ev.assign (.c (v := I 210) rfl)) ?_)
              refine nP (ret (pR (done rfl (.tmp rfl .nil) (retE ?_))))
              have n0 : ¬ (nameB (l.us.getD i.toNat eRule.zero).name = false) := by simpa using h0
              have n1 : ¬ ((findV eqs (l.us.getD i.toNat eRule.zero).name (rulesM l)).getD 0 < i) := by rw [hix3]; simpa using h1
              have n2 : ¬ (okM (l.us.getD i.toNat eRule.zero).match_ = false) := by simpa using h2
              have n3 : ¬ ((l.us.getD i.toNat eRule.zero).action < 1 ∨ 4 < (l.us.getD i.toNat eRule.zero).action) := by simpa using h3
              have n4 : ¬ (ruleO l (l.us.getD i.toNat eRule.zero) = true) := by unfold ruleO; by_cases ea : (l.us.getD i.toNat eRule.zero).action = 3 <;> simp_all
              have p5 : ((l.us.getD i.toNat eRule.zero).meter ≠ ⟨#[]⟩ ∧ inM (metersM l) (l.us.getD i.toNat eRule.zero).meter = false) ∨ ((l.us.getD i.toNat eRule.zero).mirror ≠ ⟨#[]⟩ ∧ inM (mirrorsM l) (l.us.getD i.toNat eRule.zero).mirror = false) := by rw [hm_meter, hm_mirror]; simpa using h5
              unfold ruleE
              rw [if_neg n0, if_neg n1, if_neg n2, if_neg n3, if_neg n4, if_pos p5]
              rfl
            · refine skip (pN (sg (co (Ev.assign (.c (v := I 0) rfl)) ?_)))
              refine nP (ret (done rfl (.tmp rfl .nil) (retE ?_)))
              have n0 : ¬ (nameB (l.us.getD i.toNat eRule.zero).name = false) := by simpa using h0
              have n1 : ¬ ((findV eqs (l.us.getD i.toNat eRule.zero).name (rulesM l)).getD 0 < i) := by rw [hix3]; simpa using h1
              have n2 : ¬ (okM (l.us.getD i.toNat eRule.zero).match_ = false) := by simpa using h2
              have n3 : ¬ ((l.us.getD i.toNat eRule.zero).action < 1 ∨ 4 < (l.us.getD i.toNat eRule.zero).action) := by simpa using h3
              have n4 : ¬ (ruleO l (l.us.getD i.toNat eRule.zero) = true) := by unfold ruleO; by_cases ea : (l.us.getD i.toNat eRule.zero).action = 3 <;> simp_all
              have n5 : ¬ (((l.us.getD i.toNat eRule.zero).meter ≠ ⟨#[]⟩ ∧ inM (metersM l) (l.us.getD i.toNat eRule.zero).meter = false) ∨ ((l.us.getD i.toNat eRule.zero).mirror ≠ ⟨#[]⟩ ∧ inM (mirrorsM l) (l.us.getD i.toNat eRule.zero).mirror = false)) := by rw [hm_meter, hm_mirror]; simpa using h5
              unfold ruleE
              rw [if_neg n0, if_neg n1, if_neg n2, if_neg n3, if_neg n4, if_neg n5]
              rfl
def szK (l : CL) (k : Nat) : Nat := [l.ps.length, l.rs.length, l.us.length, l.ms.length, l.xs.length].getD k 0
def limK (k : Nat) : Nat := [256, 1024, 256, 64, 16].getD k 0
def thingE (l : CL) (k i : Nat) : Int := if k = 0 then portE l.ps (l.ps.getD i iE.zero) i else if k = 1 then routeE l (l.rs.getD i eRoute.zero) i else if k = 2 then ruleE l (l.us.getD i eRule.zero) i else if k = 3 then meterE l (l.ms.getD i eMeterConf.zero) i else mirrorE l (l.xs.getD i eMirrorConf.zero) i
def baseK (l : CL) : Nat → Int
  | 0 => 0
  | k + 1 => baseK l k + (szK l k : Int)
def kindsF (l : CL) : Nat → List SFault
  | 0 => []
  | k + 1 => kindsF l k ++ listG (thingE l k) (baseK l k) (szK l k) (limK k)
theorem kindsF_all (l : CL) : kindsF l 5 = thingsF l := rfl
theorem baseK_all (l : CL) : baseK l 5 = 0 + (l.ps.length : Int) + l.rs.length + l.us.length + l.ms.length + l.xs.length := rfl
theorem baseK_nn (l : CL) : ∀ k, 0 ≤ baseK l k
  | 0 => Int.le_refl _
  | k + 1 => by have := baseK_nn l k; unfold baseK; omega
theorem baseK_le {l : CL} {n : Nat} (h : l.n ≤ n) : ∀ k, k ≤ 5 → baseK l k ≤ n := by
  intro k hk
  have h5 : baseK l 5 ≤ n := by rw [baseK_all]; unfold CL.n at h; omega
  have a4 : baseK l 5 = baseK l 4 + (szK l 4 : Int) := rfl
  have a3 : baseK l 4 = baseK l 3 + (szK l 3 : Int) := rfl
  have a2 : baseK l 3 = baseK l 2 + (szK l 2 : Int) := rfl
  have a1 : baseK l 2 = baseK l 1 + (szK l 1 : Int) := rfl
  have a0 : baseK l 1 = baseK l 0 + (szK l 0 : Int) := rfl
  have hk2 : k = 0 ∨ k = 1 ∨ k = 2 ∨ k = 3 ∨ k = 4 ∨ k = 5 := by omega
  rcases hk2 with rfl | rfl | rfl | rfl | rfl | rfl <;> omega
theorem lim_le : ∀ k, k < 5 → limK k ≤ 1024 := by
  have : ∀ q : Fin 5, limK q.val ≤ 1024 := by decide
  exact fun k hk => this ⟨k, hk⟩
theorem kindsF_len (l : CL) : ∀ k, k ≤ 5 → (kindsF l k).length ≤ k * 1025
  | 0, _ => by simp [kindsF]
  | k + 1, h => by
    have ih := kindsF_len l k (by omega)
    have hg := listG_len (thingE l k) (baseK l k) (szK l k) (limK k)
    have hl : limK k ≤ 1024 := by
      have : ∀ q : Fin 5, limK q.val ≤ 1024 := by decide
      exact this ⟨k, by omega⟩
    unfold kindsF
    rw [List.length_append]
    omega
theorem sz_vec (l : CL) (k : Nat) (hk : k < 5) : (#v[(l.ps.length : Int), l.rs.length, l.us.length, l.ms.length, l.xs.length] : Vector Int 5)[k] = (szK l k : Int) := by
  have h : k = 0 ∨ k = 1 ∨ k = 2 ∨ k = 3 ∨ k = 4 := by omega
  rcases h with rfl | rfl | rfl | rfl | rfl <;> rfl
theorem lim_vec (k : Nat) (hk : k < 5) : (#v[(256 : Int), 1024, 256, 64, 16] : Vector Int 5)[k] = (limK k : Int) := by
  have h : k = 0 ∨ k = 1 ∨ k = 2 ∨ k = 3 ∨ k = 4 := by omega
  rcases h with rfl | rfl | rfl | rfl | rfl <;> rfl
theorem en119 : Gx.Enters Tryz.prog 119 := Gx.Enters.mk' zk
theorem en120 : Gx.Enters Tryz.prog 120 := Gx.Enters.mk' zk
theorem en121 : Gx.Enters Tryz.prog 121 := Gx.Enters.mk' zk
theorem en122 : Gx.Enters Tryz.prog 122 := Gx.Enters.mk' zk
theorem en123 : Gx.Enters Tryz.prog 123 := Gx.Enters.mk' zk
theorem rthing_ok (c : SConf) (l : CL) (k : Nat) (i : Int) (w : World) (hc : ConfAt w c l) (hn : l.Names) (hk : k < 5) (hi : 0 ≤ i ∧ i < szK l k) : Calls Tryz.prog 47 #[eConf.val c, I (k : Int), I i] w (RetV w (I (thingE l k i.toNat))) := by
  refine en0 31 Tryz.func47 ?_
  refine sg (cons (box (E := eConf) (.t rfl) (fun b1 => ?_)))
  refine co (Ev.assign (.c (v := I 0) rfl)) ?_
  refine nP (seq (sg (mv rfl (nP (block (sg (co (Ev.eql_i (.t rfl) (.c (v := I 0) rfl)) ?_)))))))
  refine asn rfl (nP ?_)
  first | refine condD rfl (fun h0 => ?_) (fun h0 => ?_) | refine cond rfl (fun h0 => ?_) (fun h0 => ?_)
  · try simp only [nb] at h0
    refine seq ?_
    obtain rfl : k = 0 := by omega
    refine region (co (Ev.ldx c ty28 (.t rfl) (Lens.id _)) ?_)
    refine mv rfl (cons (callv en119 (.cons (.t rfl) (.cons (.t rfl) .nil)) (fun w I => rckport_ok c l _ w (hc.keep0 I.keeps) hi) ?_))
    refine asn rfl (nP (ret (bR (pR (done rfl (.tmp rfl .nil) (retE ?_))))))
    have ei : ((i.toNat : Nat) : Int) = i := by omega
    unfold thingE
    rw [ei]
    first
      | (rw [if_pos (by omega)]; rfl)
      | (rw [if_neg (by omega), if_pos (by omega)]; rfl)
      | (rw [if_neg (by omega), if_neg (by omega), if_pos (by omega)]; rfl)
      | (rw [if_neg (by omega), if_neg (by omega), if_neg (by omega), if_pos (by omega)]; rfl)
      | (rw [if_neg (by omega), if_neg (by omega), if_neg (by omega), if_neg (by omega)]; rfl)
  · try simp only [nb] at h0
    refine sg (co (Ev.eql_i (.t rfl) (.c (v := I 1) rfl)) ?_)
    refine asn rfl (nP ?_)
    first | refine condD rfl (fun h1 => ?_) (fun h1 => ?_) | refine cond rfl (fun h1 => ?_) (fun h1 => ?_)
    · try simp only [nb] at h1
      refine seq ?_
      obtain rfl : k = 1 := by omega
      refine region (co (Ev.ldx c ty28 (.t rfl) (Lens.id _)) ?_)
      refine mv rfl (cons (callv en120 (.cons (.t rfl) (.cons (.t rfl) .nil)) (fun w I => rckroute_ok c l _ w (hc.keep0 I.keeps) hi) ?_))
      refine asn rfl (nP (ret (bR (pR (done rfl (.tmp rfl .nil) (retE ?_))))))
      have ei : ((i.toNat : Nat) : Int) = i := by omega
      unfold thingE
      rw [ei]
      first
        | (rw [if_pos (by omega)]; rfl)
        | (rw [if_neg (by omega), if_pos (by omega)]; rfl)
        | (rw [if_neg (by omega), if_neg (by omega), if_pos (by omega)]; rfl)
        | (rw [if_neg (by omega), if_neg (by omega), if_neg (by omega), if_pos (by omega)]; rfl)
        | (rw [if_neg (by omega), if_neg (by omega), if_neg (by omega), if_neg (by omega)]; rfl)
    · try simp only [nb] at h1
      refine sg (co (Ev.eql_i (.t rfl) (.c (v := I 2) rfl)) ?_)
      refine asn rfl (nP ?_)
      first | refine condD rfl (fun h2 => ?_) (fun h2 => ?_) | refine cond rfl (fun h2 => ?_) (fun h2 => ?_)
      · try simp only [nb] at h2
        refine seq ?_
        obtain rfl : k = 2 := by omega
        refine region (co (Ev.ldx c ty28 (.t rfl) (Lens.id _)) ?_)
        refine mv rfl (cons (callv en121 (.cons (.t rfl) (.cons (.t rfl) .nil)) (fun w I => rckrule_ok c l _ w (hc.keep0 I.keeps) hi hn) ?_))
        refine asn rfl (nP (ret (bR (pR (done rfl (.tmp rfl .nil) (retE ?_))))))
        have ei : ((i.toNat : Nat) : Int) = i := by omega
        unfold thingE
        rw [ei]
        first
          | (rw [if_pos (by omega)]; rfl)
          | (rw [if_neg (by omega), if_pos (by omega)]; rfl)
          | (rw [if_neg (by omega), if_neg (by omega), if_pos (by omega)]; rfl)
          | (rw [if_neg (by omega), if_neg (by omega), if_neg (by omega), if_pos (by omega)]; rfl)
          | (rw [if_neg (by omega), if_neg (by omega), if_neg (by omega), if_neg (by omega)]; rfl)
      · try simp only [nb] at h2
        refine sg (co (Ev.eql_i (.t rfl) (.c (v := I 3) rfl)) ?_)
        refine asn rfl (nP ?_)
        first | refine condD rfl (fun h3 => ?_) (fun h3 => ?_) | refine cond rfl (fun h3 => ?_) (fun h3 => ?_)
        · try simp only [nb] at h3
          refine seq ?_
          obtain rfl : k = 3 := by omega
          refine region (co (Ev.ldx c ty28 (.t rfl) (Lens.id _)) ?_)
          refine mv rfl (cons (callv en122 (.cons (.t rfl) (.cons (.t rfl) .nil)) (fun w I => rckmeter_ok c l _ w (hc.keep0 I.keeps) hi hn) ?_))
          refine asn rfl (nP (ret (bR (pR (done rfl (.tmp rfl .nil) (retE ?_))))))
          have ei : ((i.toNat : Nat) : Int) = i := by omega
          unfold thingE
          rw [ei]
          first
            | (rw [if_pos (by omega)]; rfl)
            | (rw [if_neg (by omega), if_pos (by omega)]; rfl)
            | (rw [if_neg (by omega), if_neg (by omega), if_pos (by omega)]; rfl)
            | (rw [if_neg (by omega), if_neg (by omega), if_neg (by omega), if_pos (by omega)]; rfl)
            | (rw [if_neg (by omega), if_neg (by omega), if_neg (by omega), if_neg (by omega)]; rfl)
        · try simp only [nb] at h3
          refine skip (bN (pN (seq ?_)))
          obtain rfl : k = 4 := by omega
          refine region (co (Ev.ldx c ty28 (.t rfl) (Lens.id _)) ?_)
          refine mv rfl (cons (callv en123 (.cons (.t rfl) (.cons (.t rfl) .nil)) (fun w I => rckmirror_ok c l _ w (hc.keep0 I.keeps) hi hn) ?_))
          refine asn rfl (nP (ret (done rfl (.tmp rfl .nil) (retE ?_))))
          have ei : ((i.toNat : Nat) : Int) = i := by omega
          unfold thingE
          rw [ei]
          first
            | (rw [if_pos (by omega)]; rfl)
            | (rw [if_neg (by omega), if_pos (by omega)]; rfl)
            | (rw [if_neg (by omega), if_neg (by omega), if_pos (by omega)]; rfl)
            | (rw [if_neg (by omega), if_neg (by omega), if_neg (by omega), if_pos (by omega)]; rfl)
            | (rw [if_neg (by omega), if_neg (by omega), if_neg (by omega), if_neg (by omega)]; rfl)
theorem z99 : (Tryz.prog.info? 99).bind (·.zero) = some ((arrE 5 iE).val (arrE 5 iE).zero) := by kernel_rfl
theorem ty99 : TyOK Tryz.prog 99 (arrE 5 iE) := TyOK.mk' zk zk
theorem en47 : Gx.Enters Tryz.prog 47 := Gx.Enters.mk' zk
theorem rcheck_conf (c : SConf) (l : CL) (w : World) (hc : ConfAt w c l) (hn : l.Names) (hz : l.n ≤ 4611686018427387904) : Calls Tryz.prog 13 #[eConf.val c] w (RetO w eFault (checkF l c.default) 37) := by
  refine en0 99 Tryz.func13 ?_
  refine sg (cons (box (E := eConf) (.t rfl) (fun b1 => ?_)))
  refine co (Ev.assign (.c (v := (Go.Value.slice none 0 0)) rfl)) ?_
  refine nP (sg (co (fA 0 (.t rfl)) ?_))
  refine co (Ev.ldx c.ports ty22 (.t rfl) SConf.l_ports) ?_
  refine co (Ev.len Tryz.underlying22 (.t rfl) (fun w I => (hc.keep0 I.keeps).ps)) ?_
  refine co (fA 1 (.t rfl)) ?_
  refine co (Ev.ldx c.routes ty23 (.t rfl) SConf.l_routes) ?_
  refine co (Ev.len Tryz.underlying23 (.t rfl) (fun w I => (hc.keep0 I.keeps).rs)) ?_
  refine co (fA 2 (.t rfl)) ?_
  refine co (Ev.ldx c.rules ty24 (.t rfl) SConf.l_rules) ?_
  refine co (Ev.len Tryz.underlying24 (.t rfl) (fun w I => (hc.keep0 I.keeps).us)) ?_
  refine co (fA 3 (.t rfl)) ?_
  refine co (Ev.ldx c.meters ty25 (.t rfl) SConf.l_meters) ?_
  refine co (Ev.len Tryz.underlying25 (.t rfl) (fun w I => (hc.keep0 I.keeps).ms)) ?_
  refine co (fA 4 (.t rfl)) ?_
  refine co (Ev.ldx c.mirrors ty26 (.t rfl) SConf.l_mirrors) ?_
  refine co (Ev.len Tryz.underlying26 (.t rfl) (fun w I => (hc.keep0 I.keeps).xs)) ?_
  refine co (Ev.buildA z99 Tryz.underlying99 ty3 (.cons (.t rfl) (.cons (.t rfl) (.cons (.t rfl) (.cons (.t rfl) (.cons (.t rfl) .nil))))) (Fills.cons (lArr iE 0 (by decide)) rfl (Fills.cons (lArr iE 1 (by decide)) rfl (Fills.cons (lArr iE 2 (by decide)) rfl (Fills.cons (lArr iE 3 (by decide)) rfl (Fills.cons (lArr iE 4 (by decide)) rfl Fills.nil)))))) ?_
  refine cons (alloc z99 (fun b2 => ?_))
  refine cons (stv ty99 (Lens.id _) (.t rfl) (.t rfl) ?_)
  refine nP (sg (co (Ev.buildA z99 Tryz.underlying99 ty3 (.cons (.c (v := I 256) rfl) (.cons (.c (v := I 1024) rfl) (.cons (.c (v := I 256) rfl) (.cons (.c (v := I 64) rfl) (.cons (.c (v := I 16) rfl) .nil))))) (Fills.cons (lArr iE 0 (by decide)) rfl (Fills.cons (lArr iE 1 (by decide)) rfl (Fills.cons (lArr iE 2 (by decide)) rfl (Fills.cons (lArr iE 3 (by decide)) rfl (Fills.cons (lArr iE 4 (by decide)) rfl Fills.nil)))))) ?_))
  refine cons (alloc z99 (fun b3 => ?_))
  refine cons (stv ty99 (Lens.id _) (.t rfl) (.t rfl) ?_)
  refine nP (seq (takeNil eFault 37 ?_))
  refine region (co (Ev.assign (.c (v := (Go.Value.slice none 0 0)) rfl)) ?_)
  refine takeNil eFault 37 ?_
  refine nP (sg (co (Ev.assign (.c (v := I 0) rfl)) ?_))
  refine nP (seq (sg (co (Ev.assign (.c (v := I 0) rfl)) ?_)))
  refine nP (block (lp (X := Nat × OV) (fun x : Nat × OV => (x.1 ≤ 5)) (fun x : Nat × OV => [(1, true, .pointer (some ⟨b1, 0, none⟩)), (3, true, .pointer (some ⟨b2, 0, none⟩)), (4, true, .pointer (some ⟨b3, 0, none⟩)), (5, true, x.2.v), (6, true, I (baseK l x.1)), (7, true, I (x.1 : Int))]) (fun x : Nat × OV => [OwnS x.2.v eFault (kindsF l x.1) 37, Var b3 (arrE 5 iE) (#v[(256 : Int), 1024, 256, 64, 16] : Vector Int 5) 99, Var b2 (arrE 5 iE) (#v[(l.ps.length : Int), l.rs.length, l.us.length, l.ms.length, l.xs.length] : Vector Int 5) 99, Var b1 eConf c 28]) (fun x : Nat × OV => 5 - x.1) (0, nilSl) ?_ (fun x hx => ?_)))
  · omega
  obtain ⟨k, q⟩ := x
  have hk : k ≤ 5 := hx
  clear hx
  show Sat _ _ [(1, true, .pointer (some ⟨b1, 0, none⟩)), (3, true, .pointer (some ⟨b2, 0, none⟩)), (4, true, .pointer (some ⟨b3, 0, none⟩)), (5, true, q.v), (6, true, I (baseK l k)), (7, true, I (k : Int))] [OwnS q.v eFault (kindsF l k) 37, Var b3 (arrE 5 iE) (#v[(256 : Int), 1024, 256, 64, 16] : Vector Int 5) 99, Var b2 (arrE 5 iE) (#v[(l.ps.length : Int), l.rs.length, l.us.length, l.ms.length, l.xs.length] : Vector Int 5) 99, Var b1 eConf c 28]
  have hb0 := baseK_nn l k
  have hbl := baseK_le hz k hk
  refine seq (sg (co (Ev.to (v' := I (k : Int)) (Ev.move (.t rfl)) (rfl)) ?_))
  refine co (Ev.lss_i (.t rfl) (.c (v := I 5) rfl)) ?_
  refine nP ?_
  first | refine condD rfl (fun h0 => ?_) (fun h0 => ?_) | refine cond rfl (fun h0 => ?_) (fun h0 => ?_)
  · try simp only [nb] at h0
    have hkk : k < 5 := by omega
    have hlm : limK k ≤ 1024 := lim_le k hkk
    have hb1 := baseK_le hz (k + 1) (by omega)
    have hb2 : baseK l (k + 1) = baseK l k + (szK l k : Int) := rfl
    refine skip (pN (seq (block (seq (sg (co (Ev.assign (.c (v := I 0) rfl)) ?_))))))
    refine nP (block (lp (X := Int × OV) (fun x : Int × OV => (0 ≤ x.1 ∧ x.1 ≤ szK l k ∧ x.1 ≤ limK k)) (fun x : Int × OV => [(1, true, .pointer (some ⟨b1, 0, none⟩)), (3, true, .pointer (some ⟨b2, 0, none⟩)), (4, true, .pointer (some ⟨b3, 0, none⟩)), (5, true, x.2.v), (6, true, I (baseK l k)), (7, true, I (k : Int)), (8, true, I x.1)]) (fun x : Int × OV => [OwnS x.2.v eFault (kindsF l k ++ faultsUp (thingE l k) (baseK l k) x.1.toNat) 37, Var b3 (arrE 5 iE) (#v[(256 : Int), 1024, 256, 64, 16] : Vector Int 5) 99, Var b2 (arrE 5 iE) (#v[(l.ps.length : Int), l.rs.length, l.us.length, l.ms.length, l.xs.length] : Vector Int 5) 99, Var b1 eConf c 28]) (fun x : Int × OV => ((szK l k : Int) - x.1).toNat) (0, q) ?_ (fun x hx => ?_) (hL := (by simp only [show (0 : Int).toNat = 0 from rfl, faultsUp, List.append_nil]; repeat first | exact sR | exact sN | apply sC | apply sS | apply sA))))
    · omega
    obtain ⟨i, q1⟩ := x
    have hi : 0 ≤ i ∧ i ≤ szK l k ∧ i ≤ limK k := hx
    clear hx
    show Sat _ _ [(1, true, .pointer (some ⟨b1, 0, none⟩)), (3, true, .pointer (some ⟨b2, 0, none⟩)), (4, true, .pointer (some ⟨b3, 0, none⟩)), (5, true, q1.v), (6, true, I (baseK l k)), (7, true, I (k : Int)), (8, true, I i)] [OwnS q1.v eFault (kindsF l k ++ faultsUp (thingE l k) (baseK l k) i.toNat) 37, Var b3 (arrE 5 iE) (#v[(256 : Int), 1024, 256, 64, 16] : Vector Int 5) 99, Var b2 (arrE 5 iE) (#v[(l.ps.length : Int), l.rs.length, l.us.length, l.ms.length, l.xs.length] : Vector Int 5) 99, Var b1 eConf c 28]
    refine seq (sg (mv rfl (mv rfl (co (Ev.indexAddrA0 Tryz.underlying99 ty3 (.t rfl) (.t rfl) (fun _ => zo)) ?_))))
    refine co (Ev.to (v' := I (szK l k : Nat)) (Ev.ldv ty3 (.t rfl) (lArr (n := 5) iE _ (by omega))) (congrArg I (sz_vec l k hkk))) ?_
    refine co (Ev.lss_i (.t rfl) (.t rfl)) ?_
    refine mv rfl (cg rfl rfl (Ev.move (.t rfl)) ?_)
    refine cg rfl rfl (Ev.move (.t rfl)) ?_
    refine cg rfl rfl (Ev.indexAddrA0 Tryz.underlying99 ty3 (.t rfl) (.g rfl id) (fun _ => by first | omega | (rename_i hg; simp at hg; omega))) ?_
    refine cg rfl rfl (Ev.to (v' := I (limK k : Nat)) (Ev.ldv ty3 (.g rfl id) (lArr (n := 5) iE _ (by first | omega | (rename_i hg; simp at hg; omega)))) (congrArg I (lim_vec k hkk))) ?_
    refine cg rfl rfl (Ev.lss_i (.g rfl id) (.g rfl id)) ?_
    refine co (Ev.pkA (.t rfl) rfl) ?_
    refine nP ?_
    first | refine condD rfl (fun h1 => ?_) (fun h1 => ?_) | refine cond rfl (fun h1 => ?_) (fun h1 => ?_)
    · try simp only [nb] at h1
      refine skip (pN (seq (block (sg (co (Ev.ldx c ty28 (.t rfl) (Lens.id _)) ?_)))))
      refine mv rfl (mv rfl (cons (callv en47 (.cons (.t rfl) (.cons (.t rfl) (.cons (.t rfl) .nil))) (fun w I => rthing_ok c l k _ w (hc.keep0 I.keeps) hn hkk (by omega)) ?_)))
      refine asn rfl (nP (sg (mv rfl (co (Ev.neq_i (.t rfl) (.c (v := I 0) rfl)) ?_))))
      refine nP ?_
      first | refine condD rfl (fun h2 => ?_) (fun h2 => ?_) | refine cond rfl (fun h2 => ?_) (fun h2 => ?_)
      · try simp only [nb] at h2
        have hst := faultsUp_bad (e := thingE l k) (d := baseK l k) hi.1 h2
        refine region (mv rfl (mv rfl (mv rfl (mv rfl (co (Ev.add_i (.t rfl) (.t rfl) (fun _ => zo)) ?_)))))
        refine co (Ev.buildS (fs := _) (places := [(0, 1), (1, 1)]) z37 rfl Tryz.underlying37 zk (.cons (.t rfl) (.cons (.t rfl) .nil)) (Fills.cons SFault.l_code rfl (Fills.cons SFault.l_at_ rfl Fills.nil))) ?_
        refine cons (buildSlice (E := eFault) Tryz.underlying31 ty37 z37 (.cons (.t rfl) .nil) rfl rfl (fun v4 => ?_))
        refine cons (app (E := eFault) Tryz.underlying31 ty37 zb37 zs37 (.t rfl) (.t rfl) (fun v5 => ?_) (hby := ⟨by (show _ ≤ 9223372036854775807); have h1l := kindsF_len l k (by omega); have h2l := faultsUp_len (thingE l k) (baseK l k) i.toNat; simp only [List.length_append, List.length_cons, List.length_nil]; omega, by have h1l := kindsF_len l k (by omega); have h2l := faultsUp_len (thingE l k) (baseK l k) i.toNat; simp only [List.length_append, List.length_cons, List.length_nil]; omega⟩))
        refine asn rfl (nil (bN (pN (region (mv rfl (co (Ev.add_i (.t rfl) (.c (v := I 1) rfl) (fun _ => zo)) ?_))))))
        refine asn rfl (nP (nx (X := Int × OV) (i + 1, _) ?_ ?_ (hL := (by rw [hst]; (try rw [← List.append_assoc]); repeat first | exact sR | exact sN | apply sC | apply sS | apply sA))))
        · try dsimp only
          omega
        · try dsimp only
          omega
      · try simp only [nb] at h2
        have hst := faultsUp_ok (e := thingE l k) (d := baseK l k) hi.1 h2
        refine skip (bN (pN (region (mv rfl (co (Ev.add_i (.t rfl) (.c (v := I 1) rfl) (fun _ => zo)) ?_)))))
        refine asn rfl (nP (nx (X := Int × OV) (i + 1, _) ?_ ?_ (hL := (by rw [hst]; (try rw [← List.append_assoc]); repeat first | exact sR | exact sN | apply sC | apply sS | apply sA))))
        · try dsimp only
          omega
        · try dsimp only
          omega
    · try simp only [nb] at h1
      refine exit (pX (pX (bX (pN (seq (seq ?_))))))
      have him : i.toNat = min (szK l k) (limK k) := by omega
      rw [him]
      refine draw' zk ?_
      refine tk 0 rfl (Ev.move (.t rfl)) ?_
      refine tk 1 rfl (Ev.indexAddrA0 Tryz.underlying99 ty3 (.t rfl) (.t rfl) (fun _ => zo)) ?_
      refine tk 2 rfl (Ev.to (v' := I (szK l k : Nat)) (Ev.ldv ty3 (.t rfl) (lArr (n := 5) iE _ (by omega))) (congrArg I (sz_vec l k hkk))) ?_
      refine tk 3 rfl (Ev.move (.t rfl)) ?_
      refine tk 4 rfl (Ev.indexAddrA0 Tryz.underlying99 ty3 (.t rfl) (.t rfl) (fun _ => zo)) ?_
      refine tk 5 rfl (Ev.to (v' := I (limK k : Nat)) (Ev.ldv ty3 (.t rfl) (lArr (n := 5) iE _ (by omega))) (congrArg I (lim_vec k hkk))) ?_
      refine tk 6 rfl (Ev.gtr_i (.t rfl) (.t rfl)) ?_
      refine ovr (pN ?_)
      first | refine condD rfl (fun h3 => ?_) (fun h3 => ?_) | refine cond rfl (fun h3 => ?_) (fun h3 => ?_)
      · try simp only [nb] at h3
        refine region (mv rfl (mv rfl (mv rfl (co (Ev.indexAddrA0 Tryz.underlying99 ty3 (.t rfl) (.t rfl) (fun _ => zo)) ?_))))
        refine co (Ev.to (v' := I (limK k : Nat)) (Ev.ldv ty3 (.t rfl) (lArr (n := 5) iE _ (by omega))) (congrArg I (lim_vec k hkk))) ?_
        refine co (Ev.add_i (.t rfl) (.t rfl) (fun _ => zo)) ?_
        refine co (Ev.buildS (fs := _) (places := [(0, 1), (1, 1)]) z37 rfl Tryz.underlying37 zk (.cons (.c (v := I 4) rfl) (.cons (.t rfl) .nil)) (Fills.cons SFault.l_code rfl (Fills.cons SFault.l_at_ rfl Fills.nil))) ?_
        refine cons (buildSlice (E := eFault) Tryz.underlying31 ty37 z37 (.cons (.t rfl) .nil) rfl rfl (fun v6 => ?_))
        refine cons (app (E := eFault) Tryz.underlying31 ty37 zb37 zs37 (.t rfl) (.t rfl) (fun v7 => ?_) (hby := ⟨by (show _ ≤ 9223372036854775807); have h1l := kindsF_len l k (by omega); have h2l := faultsUp_len (thingE l k) (baseK l k) (min (szK l k) (limK k)); simp only [List.length_append, List.length_cons, List.length_nil]; omega, by have h1l := kindsF_len l k (by omega); have h2l := faultsUp_len (thingE l k) (baseK l k) (min (szK l k) (limK k)); simp only [List.length_append, List.length_cons, List.length_nil]; omega⟩))
        refine asn rfl (nP (region (mv rfl (mv rfl (co (Ev.indexAddrA0 Tryz.underlying99 ty3 (.t rfl) (.t rfl) (fun _ => zo)) ?_)))))
        refine co (Ev.to (v' := I (szK l k : Nat)) (Ev.ldv ty3 (.t rfl) (lArr (n := 5) iE _ (by omega))) (congrArg I (sz_vec l k hkk))) ?_
        refine co (Ev.add_i (.t rfl) (.t rfl) (fun _ => zo)) ?_
        refine asn rfl (nil (bN (pN (region (mv rfl (co (Ev.add_i (.t rfl) (.c (v := I 1) rfl) (fun _ => zo)) ?_))))))
        refine asn rfl (nP (nx (X := Nat × OV) (k + 1, _) ?_ ?_ (hL := (by rw [show kindsF l (k + 1) = kindsF l k ++ listG (thingE l k) (baseK l k) (szK l k) (limK k) from rfl]; unfold listG; (first | rw [if_pos (by omega), ← List.append_assoc] | rw [if_neg (by omega), List.append_nil]); repeat first | exact sR | exact sN | apply sC | apply sS | apply sA))))
        · try dsimp only
          omega
        · try dsimp only
          omega
      · try simp only [nb] at h3
        refine skip (pN (region (mv rfl (mv rfl (co (Ev.indexAddrA0 Tryz.underlying99 ty3 (.t rfl) (.t rfl) (fun _ => zo)) ?_)))))
        refine co (Ev.to (v' := I (szK l k : Nat)) (Ev.ldv ty3 (.t rfl) (lArr (n := 5) iE _ (by omega))) (congrArg I (sz_vec l k hkk))) ?_
        refine co (Ev.add_i (.t rfl) (.t rfl) (fun _ => zo)) ?_
        refine asn rfl (nil (bN (pN (region (mv rfl (co (Ev.add_i (.t rfl) (.c (v := I 1) rfl) (fun _ => zo)) ?_))))))
        refine asn rfl (nP (nx (X := Nat × OV) (k + 1, _) ?_ ?_ (hL := (by rw [show kindsF l (k + 1) = kindsF l k ++ listG (thingE l k) (baseK l k) (szK l k) (limK k) from rfl]; unfold listG; (first | rw [if_pos (by omega), ← List.append_assoc] | rw [if_neg (by omega), List.append_nil]); repeat first | exact sR | exact sN | apply sC | apply sS | apply sA))))
        · try dsimp only
          omega
        · try dsimp only
          omega
  · try simp only [nb] at h0
    obtain rfl : k = 5 := by omega
    refine exit (pX (pX (bX (pN (cut (X := OV) (fun x : OV => True) (fun x : OV => [(5, true, x.v)]) (fun x : OV => [OwnS x.v eFault (checkF l c.default) 37]) ?_ (fun x hx => ?_))))))
    · refine seq ?_
      rw [kindsF_all, baseK_all]
      refine region (co (fA 5 (.t rfl)) ?_)
      refine co (Ev.ldx c.default ty3 (.t rfl) SConf.l_default) ?_
      refine co (Ev.neq_i (.t rfl) (.c (v := I 1) rfl)) ?_
      refine mv rfl (cg rfl rfl (fA 5 (.t rfl)) ?_)
      refine cg rfl rfl (Ev.ldx c.default ty3 (.g rfl id) SConf.l_default) ?_
      refine cg rfl rfl (Ev.neq_i (.g rfl id) (.c (v := I 2) rfl)) ?_
      refine co (Ev.pkA (.t rfl) rfl) ?_
      refine mv rfl (cg rfl rfl (fA 5 (.t rfl)) ?_)
      refine cg rfl rfl (Ev.ldx c.default ty3 (.g rfl id) SConf.l_default) ?_
      refine cg rfl rfl (Ev.neq_i (.g rfl id) (.c (v := I 4) rfl)) ?_
      refine co (Ev.pkA (.t rfl) rfl) ?_
      refine nP ?_
      first | refine condD rfl (fun h4 => ?_) (fun h4 => ?_) | refine cond rfl (fun h4 => ?_) (fun h4 => ?_)
      · have hdb : defBad c.default = true := (defBad_eq _).trans h4
        refine region (mv rfl (mv rfl (co (Ev.buildS (fs := _) (places := [(0, 1), (1, 1)]) z37 rfl Tryz.underlying37 zk (.cons (.c (v := I 2) rfl) (.cons (.t rfl) .nil)) (Fills.cons SFault.l_code rfl (Fills.cons SFault.l_at_ rfl Fills.nil))) ?_)))
        refine cons (buildSlice (E := eFault) Tryz.underlying31 ty37 z37 (.cons (.t rfl) .nil) rfl rfl (fun v8 => ?_))
        refine cons (app (E := eFault) Tryz.underlying31 ty37 zb37 zs37 (.t rfl) (.t rfl) (fun v9 => ?_) (hby := ⟨by (show _ ≤ 9223372036854775807); have := thingsF_len l; simp only [List.length_cons, List.length_nil]; omega, by have := thingsF_len l; simp only [List.length_cons, List.length_nil]; omega⟩))
        refine asn rfl (nP (mt (X := OV) (_) trivial (hL := (by unfold checkF; (first | rw [if_pos hdb] | rw [if_neg hdb, List.append_nil]); repeat first | exact sR | exact sN | apply sC | apply sS | apply sA))))
      · have hdb : ¬ defBad c.default = true := by rw [show defBad c.default = false from (defBad_eq _).trans h4]; exact Bool.false_ne_true
        refine skip (pN (mt (X := OV) (_) trivial (hL := (by unfold checkF; (first | rw [if_pos hdb] | rw [if_neg hdb, List.append_nil]); repeat first | exact sR | exact sN | apply sC | apply sS | apply sA))))
    obtain ⟨q2, rfl⟩ : ∃ y, y = x := ⟨x, rfl⟩
    show Sat _ _ [(5, true, q2.v)] [OwnS q2.v eFault (checkF l c.default) 37]
    refine sg (mv rfl (asn rfl (nP (ret (done rfl (.tmp rfl .nil) (retOE zm ?_))))))
    rfl
def mkRo : SRoute := { eRoute.zero with out := 777 }
def mkRu : SRule := { eRule.zero with out := 777 }
def mkMe : SMeterConf := { eMeterConf.zero with name := ⟨#[55, 55, 55]⟩ }
def mkMi : SMirrorConf := { eMirrorConf.zero with out := 777 }
def markL (l : CL) : CL := ⟨l.ps ++ [(777 : Int)], l.rs ++ [mkRo], l.us ++ [mkRu], l.ms ++ [mkMe], l.xs ++ [mkMi]⟩
def takeC (l : CL) (n : Nat) : CL := ⟨l.ps.take n, l.rs.take n, l.us.take n, l.ms.take n, l.xs.take n⟩
def subC (x : CB) (l : CL) : CB := ⟨OV.sub iE.size x.o1 0 l.ps.length, OV.sub eRoute.size x.o2 0 l.rs.length, OV.sub eRule.size x.o3 0 l.us.length, OV.sub eMeterConf.size x.o4 0 l.ms.length, OV.sub eMirrorConf.size x.o5 0 l.xs.length⟩
theorem take_mark {α : Type} (l : List α) (x : α) : (l ++ [x]).take l.length = l := List.take_left
theorem isSl_mark {α : Type} {E : Enc α} {w : World} {v : Value} {l : List α} {x : α} (h : IsSl E w v (l ++ [x])) : IsSl E w (subS E.size v 0 l.length) l := by
  have := h.sub (l := 0) (k := l.length) (by omega) (by simp)
  rwa [take_mark, List.drop_zero] at this
theorem ConfAt.sub {w : World} {x : CB} {l : CL} {d : Int} (h : ConfAt w (x.c d) (markL l)) : ConfAt w ((subC x l).c d) l := ⟨isSl_mark h.ps, isSl_mark h.rs, isSl_mark h.us, isSl_mark h.ms, isSl_mark h.xs⟩
theorem take_min {α : Type} (l : List α) (n m : Nat) (h : (m : Int) = min (l.length : Int) n) : l.take m = l.take n := by
  rcases Nat.le_total l.length n with h2 | h2
  · rw [List.take_of_length_le h2, List.take_of_length_le (by omega)]
  · have : m = n := by omega
    rw [this]
theorem takeC_len (l : CL) (n : Nat) : (takeC l n).ps.length ≤ n ∧ (takeC l n).rs.length ≤ n ∧ (takeC l n).us.length ≤ n ∧ (takeC l n).ms.length ≤ n ∧ (takeC l n).xs.length ≤ n := by
  unfold takeC
  simp only [List.length_take]
  omega
theorem cut_ok (c : SConf) (l : CL) (most : Nat) (w : World) (hc : ConfAt w c l) (hm : most ≤ 2000) : Calls Tryz.prog 10 #[eConf.val c, I (most : Nat)] w (RetN w (fun _ : CB => True) (fun x => eConf.val ((subC x (takeC l most)).c c.default)) (fun x => x.R (markL (takeC l most)))) := by
  obtain ⟨m0, hm0⟩ : ∃ m : Nat, (m : Int) = min (l.ps.length : Int) most := ⟨min l.ps.length most, by omega⟩
  obtain ⟨m1, hm1⟩ : ∃ m : Nat, (m : Int) = min (l.rs.length : Int) most := ⟨min l.rs.length most, by omega⟩
  obtain ⟨m2, hm2⟩ : ∃ m : Nat, (m : Int) = min (l.us.length : Int) most := ⟨min l.us.length most, by omega⟩
  obtain ⟨m3, hm3⟩ : ∃ m : Nat, (m : Int) = min (l.ms.length : Int) most := ⟨min l.ms.length most, by omega⟩
  obtain ⟨m4, hm4⟩ : ∃ m : Nat, (m : Int) = min (l.xs.length : Int) most := ⟨min l.xs.length most, by omega⟩
  obtain ⟨hl1, hl2, hl3, hl4, hl5⟩ := takeC_len l most
  refine en0 119 Tryz.func10 ?_
  refine sg (cons (box (E := eConf) (.t rfl) (fun b1 => ?_)))
  refine cons (alloc z28 (fun b2 => ?_))
  refine nP (sg (cons (alloc z28 (fun b3 => ?_))))
  refine nP (sg (co (fA 5 (.t rfl)) ?_))
  refine co (Ev.ldx c.default ty3 (.t rfl) SConf.l_default) ?_
  refine co (fA 5 (.t rfl)) ?_
  refine cons (stv ty3 SConf.l_default (.t rfl) (.t rfl) ?_)
  refine nP (cut (X := OV) (fun x : OV => True) (fun x : OV => [(2, true, .pointer (some ⟨b1, 0, none⟩)), (4, true, .pointer (some ⟨b2, 0, none⟩)), (5, true, .pointer (some ⟨b3, 0, none⟩)), (1, true, I (most : Nat))]) (fun x : OV => [Var b3 eConf (⟨x, nilSl, nilSl, nilSl, nilSl, c.default⟩ : SConf) 28, OwnS x.v iE ((takeC l most).ps) 3, OwnS nilSl.v eRoute ([]) 52, OwnS nilSl.v eRule ([]) 76, OwnS nilSl.v eMeterConf ([]) 57, OwnS nilSl.v eMirrorConf ([]) 59, Var b2 eConf eConf.zero 28, Var b1 eConf c 28]) ?_ (fun x hx => ?_))
  · refine takeNil iE 3 ?_
    refine takeNil eRoute 52 ?_
    refine takeNil eRule 76 ?_
    refine takeNil eMeterConf 57 ?_
    refine takeNil eMirrorConf 59 ?_
    refine draw [Var b2 eConf eConf.zero 28, Var b1 eConf c 28] zk ?_
    refine tk 0 rfl (fA 0 (.t rfl)) ?_
    refine tk 2 rfl (fA 0 (.t rfl)) ?_
    refine tk 3 rfl (Ev.ldx c.ports ty22 (.t rfl) SConf.l_ports) ?_
    refine tk 4 rfl (fA 0 (.t rfl)) ?_
    refine tk 5 rfl (Ev.ldx c.ports ty22 (.t rfl) SConf.l_ports) ?_
    refine tk 6 rfl (Ev.len Tryz.underlying22 (.t rfl) (fun w I => (hc.keep0 I.keeps).ps)) ?_
    refine tk 7 rfl (Ev.move (.t rfl)) ?_
    refine tk 8 rfl (Ev.to (v' := I ((m0 : Nat) : Int)) (Ev.min_i (.t rfl) (.t rfl)) (by rw [hm0])) ?_
    refine tk 9 rfl (Ev.sliceH Tryz.underlying22 ty3 (.t rfl) (.t rfl) (fun w I => (hc.keep0 I.keeps).ps) (fun _ => zo)) ?_
    refine al1 1 rfl ((opv (Ev.ldv ty22 (.t rfl) SConf.l_ports) ?_))
    refine hdn (al1 10 rfl ((app (E := iE) Tryz.underlying22 ty3 zb3 zs3 (.t rfl) (.t rfl) (fun v4 => ?_) (hsrc := (fun w I => by have h1 := ((hc.keep0 I.keeps).ps).sub (l := 0) (k := m0) (by omega) (by omega); rw [List.drop_zero, take_min _ _ _ hm0] at h1; exact h1)) (hby := ⟨by (show _ ≤ 9223372036854775807); simp; omega, by simp; omega⟩))))
    refine hdn (tk 11 rfl (fA 0 (.t rfl)) ?_)
    refine al1 12 rfl ((stv ty22 SConf.l_ports (.t rfl) (.t rfl) ?_))
    refine hdn (ovr (pN (mtP (X := OV) (_) trivial)))
  obtain ⟨a1, rfl⟩ : ∃ y, y = x := ⟨x, rfl⟩
  show Sat _ _ [(2, true, .pointer (some ⟨b1, 0, none⟩)), (4, true, .pointer (some ⟨b2, 0, none⟩)), (5, true, .pointer (some ⟨b3, 0, none⟩)), (1, true, I (most : Nat))] [Var b3 eConf (⟨a1, nilSl, nilSl, nilSl, nilSl, c.default⟩ : SConf) 28, OwnS a1.v iE ((takeC l most).ps) 3, OwnS nilSl.v eRoute ([]) 52, OwnS nilSl.v eRule ([]) 76, OwnS nilSl.v eMeterConf ([]) 57, OwnS nilSl.v eMirrorConf ([]) 59, Var b2 eConf eConf.zero 28, Var b1 eConf c 28]
  refine cut (X := OV) (fun x : OV => True) (fun x : OV => [(2, true, .pointer (some ⟨b1, 0, none⟩)), (4, true, .pointer (some ⟨b2, 0, none⟩)), (5, true, .pointer (some ⟨b3, 0, none⟩)), (1, true, I (most : Nat))]) (fun x : OV => [Var b3 eConf (⟨a1, x, nilSl, nilSl, nilSl, c.default⟩ : SConf) 28, OwnS a1.v iE ((takeC l most).ps) 3, OwnS x.v eRoute ((takeC l most).rs) 52, OwnS nilSl.v eRule ([]) 76, OwnS nilSl.v eMeterConf ([]) 57, OwnS nilSl.v eMirrorConf ([]) 59, Var b2 eConf eConf.zero 28, Var b1 eConf c 28]) ?_ (fun x hx => ?_)
  · refine draw [Var b2 eConf eConf.zero 28, Var b1 eConf c 28] zk ?_
    refine tk 0 rfl (fA 1 (.t rfl)) ?_
    refine tk 2 rfl (fA 1 (.t rfl)) ?_
    refine tk 3 rfl (Ev.ldx c.routes ty23 (.t rfl) SConf.l_routes) ?_
    refine tk 4 rfl (fA 1 (.t rfl)) ?_
    refine tk 5 rfl (Ev.ldx c.routes ty23 (.t rfl) SConf.l_routes) ?_
    refine tk 6 rfl (Ev.len Tryz.underlying23 (.t rfl) (fun w I => (hc.keep0 I.keeps).rs)) ?_
    refine tk 7 rfl (Ev.move (.t rfl)) ?_
    refine tk 8 rfl (Ev.to (v' := I ((m1 : Nat) : Int)) (Ev.min_i (.t rfl) (.t rfl)) (by rw [hm1])) ?_
    refine tk 9 rfl (Ev.sliceH Tryz.underlying23 ty52 (.t rfl) (.t rfl) (fun w I => (hc.keep0 I.keeps).rs) (fun _ => zo)) ?_
    refine al1 1 rfl ((opv (Ev.ldv ty23 (.t rfl) SConf.l_routes) ?_))
    refine hdn (al1 10 rfl ((app (E := eRoute) Tryz.underlying23 ty52 zb52 zs52 (.t rfl) (.t rfl) (fun v5 => ?_) (hsrc := (fun w I => by have h1 := ((hc.keep0 I.keeps).rs).sub (l := 0) (k := m1) (by omega) (by omega); rw [List.drop_zero, take_min _ _ _ hm1] at h1; exact h1)) (hby := ⟨by (show _ ≤ 9223372036854775807); simp; omega, by simp; omega⟩))))
    refine hdn (tk 11 rfl (fA 1 (.t rfl)) ?_)
    refine al1 12 rfl ((stv ty23 SConf.l_routes (.t rfl) (.t rfl) ?_))
    refine hdn (ovr (pN (mtP (X := OV) (_) trivial)))
  obtain ⟨a2, rfl⟩ : ∃ y, y = x := ⟨x, rfl⟩
  show Sat _ _ [(2, true, .pointer (some ⟨b1, 0, none⟩)), (4, true, .pointer (some ⟨b2, 0, none⟩)), (5, true, .pointer (some ⟨b3, 0, none⟩)), (1, true, I (most : Nat))] [Var b3 eConf (⟨a1, a2, nilSl, nilSl, nilSl, c.default⟩ : SConf) 28, OwnS a1.v iE ((takeC l most).ps) 3, OwnS a2.v eRoute ((takeC l most).rs) 52, OwnS nilSl.v eRule ([]) 76, OwnS nilSl.v eMeterConf ([]) 57, OwnS nilSl.v eMirrorConf ([]) 59, Var b2 eConf eConf.zero 28, Var b1 eConf c 28]
  refine cut (X := OV) (fun x : OV => True) (fun x : OV => [(2, true, .pointer (some ⟨b1, 0, none⟩)), (4, true, .pointer (some ⟨b2, 0, none⟩)), (5, true, .pointer (some ⟨b3, 0, none⟩)), (1, true, I (most : Nat))]) (fun x : OV => [Var b3 eConf (⟨a1, a2, x, nilSl, nilSl, c.default⟩ : SConf) 28, OwnS a1.v iE ((takeC l most).ps) 3, OwnS a2.v eRoute ((takeC l most).rs) 52, OwnS x.v eRule ((takeC l most).us) 76, OwnS nilSl.v eMeterConf ([]) 57, OwnS nilSl.v eMirrorConf ([]) 59, Var b2 eConf eConf.zero 28, Var b1 eConf c 28]) ?_ (fun x hx => ?_)
  · refine draw [Var b2 eConf eConf.zero 28, Var b1 eConf c 28] zk ?_
    refine tk 0 rfl (fA 2 (.t rfl)) ?_
    refine tk 2 rfl (fA 2 (.t rfl)) ?_
    refine tk 3 rfl (Ev.ldx c.rules ty24 (.t rfl) SConf.l_rules) ?_
    refine tk 4 rfl (fA 2 (.t rfl)) ?_
    refine tk 5 rfl (Ev.ldx c.rules ty24 (.t rfl) SConf.l_rules) ?_
    refine tk 6 rfl (Ev.len Tryz.underlying24 (.t rfl) (fun w I => (hc.keep0 I.keeps).us)) ?_
    refine tk 7 rfl (Ev.move (.t rfl)) ?_
    refine tk 8 rfl (Ev.to (v' := I ((m2 : Nat) : Int)) (Ev.min_i (.t rfl) (.t rfl)) (by rw [hm2])) ?_
    refine tk 9 rfl (Ev.sliceH Tryz.underlying24 ty76 (.t rfl) (.t rfl) (fun w I => (hc.keep0 I.keeps).us) (fun _ => zo)) ?_
    refine al1 1 rfl ((opv (Ev.ldv ty24 (.t rfl) SConf.l_rules) ?_))
    refine hdn (al1 10 rfl ((app (E := eRule) Tryz.underlying24 ty76 zb76 zs76 (.t rfl) (.t rfl) (fun v6 => ?_) (hsrc := (fun w I => by have h1 := ((hc.keep0 I.keeps).us).sub (l := 0) (k := m2) (by omega) (by omega); rw [List.drop_zero, take_min _ _ _ hm2] at h1; exact h1)) (hby := ⟨by (show _ ≤ 9223372036854775807); simp; omega, by simp; omega⟩))))
    refine hdn (tk 11 rfl (fA 2 (.t rfl)) ?_)
    refine al1 12 rfl ((stv ty24 SConf.l_rules (.t rfl) (.t rfl) ?_))
    refine hdn (ovr (pN (mtP (X := OV) (_) trivial)))
  obtain ⟨a3, rfl⟩ : ∃ y, y = x := ⟨x, rfl⟩
  show Sat _ _ [(2, true, .pointer (some ⟨b1, 0, none⟩)), (4, true, .pointer (some ⟨b2, 0, none⟩)), (5, true, .pointer (some ⟨b3, 0, none⟩)), (1, true, I (most : Nat))] [Var b3 eConf (⟨a1, a2, a3, nilSl, nilSl, c.default⟩ : SConf) 28, OwnS a1.v iE ((takeC l most).ps) 3, OwnS a2.v eRoute ((takeC l most).rs) 52, OwnS a3.v eRule ((takeC l most).us) 76, OwnS nilSl.v eMeterConf ([]) 57, OwnS nilSl.v eMirrorConf ([]) 59, Var b2 eConf eConf.zero 28, Var b1 eConf c 28]
  refine cut (X := OV) (fun x : OV => True) (fun x : OV => [(2, true, .pointer (some ⟨b1, 0, none⟩)), (4, true, .pointer (some ⟨b2, 0, none⟩)), (5, true, .pointer (some ⟨b3, 0, none⟩)), (1, true, I (most : Nat))]) (fun x : OV => [Var b3 eConf (⟨a1, a2, a3, x, nilSl, c.default⟩ : SConf) 28, OwnS a1.v iE ((takeC l most).ps) 3, OwnS a2.v eRoute ((takeC l most).rs) 52, OwnS a3.v eRule ((takeC l most).us) 76, OwnS x.v eMeterConf ((takeC l most).ms) 57, OwnS nilSl.v eMirrorConf ([]) 59, Var b2 eConf eConf.zero 28, Var b1 eConf c 28]) ?_ (fun x hx => ?_)
  · refine draw [Var b2 eConf eConf.zero 28, Var b1 eConf c 28] zk ?_
    refine tk 0 rfl (fA 3 (.t rfl)) ?_
    refine tk 2 rfl (fA 3 (.t rfl)) ?_
    refine tk 3 rfl (Ev.ldx c.meters ty25 (.t rfl) SConf.l_meters) ?_
    refine tk 4 rfl (fA 3 (.t rfl)) ?_
    refine tk 5 rfl (Ev.ldx c.meters ty25 (.t rfl) SConf.l_meters) ?_
    refine tk 6 rfl (Ev.len Tryz.underlying25 (.t rfl) (fun w I => (hc.keep0 I.keeps).ms)) ?_
    refine tk 7 rfl (Ev.move (.t rfl)) ?_
    refine tk 8 rfl (Ev.to (v' := I ((m3 : Nat) : Int)) (Ev.min_i (.t rfl) (.t rfl)) (by rw [hm3])) ?_
    refine tk 9 rfl (Ev.sliceH Tryz.underlying25 ty57 (.t rfl) (.t rfl) (fun w I => (hc.keep0 I.keeps).ms) (fun _ => zo)) ?_
    refine al1 1 rfl ((opv (Ev.ldv ty25 (.t rfl) SConf.l_meters) ?_))
    refine hdn (al1 10 rfl ((app (E := eMeterConf) Tryz.underlying25 ty57 zb57 zs57 (.t rfl) (.t rfl) (fun v7 => ?_) (hsrc := (fun w I => by have h1 := ((hc.keep0 I.keeps).ms).sub (l := 0) (k := m3) (by omega) (by omega); rw [List.drop_zero, take_min _ _ _ hm3] at h1; exact h1)) (hby := ⟨by (show _ ≤ 9223372036854775807); simp; omega, by simp; omega⟩))))
    refine hdn (tk 11 rfl (fA 3 (.t rfl)) ?_)
    refine al1 12 rfl ((stv ty25 SConf.l_meters (.t rfl) (.t rfl) ?_))
    refine hdn (ovr (pN (mtP (X := OV) (_) trivial)))
  obtain ⟨a4, rfl⟩ : ∃ y, y = x := ⟨x, rfl⟩
  show Sat _ _ [(2, true, .pointer (some ⟨b1, 0, none⟩)), (4, true, .pointer (some ⟨b2, 0, none⟩)), (5, true, .pointer (some ⟨b3, 0, none⟩)), (1, true, I (most : Nat))] [Var b3 eConf (⟨a1, a2, a3, a4, nilSl, c.default⟩ : SConf) 28, OwnS a1.v iE ((takeC l most).ps) 3, OwnS a2.v eRoute ((takeC l most).rs) 52, OwnS a3.v eRule ((takeC l most).us) 76, OwnS a4.v eMeterConf ((takeC l most).ms) 57, OwnS nilSl.v eMirrorConf ([]) 59, Var b2 eConf eConf.zero 28, Var b1 eConf c 28]
  refine cut (X := OV) (fun x : OV => True) (fun x : OV => [(2, true, .pointer (some ⟨b1, 0, none⟩)), (4, true, .pointer (some ⟨b2, 0, none⟩)), (5, true, .pointer (some ⟨b3, 0, none⟩)), (1, true, I (most : Nat))]) (fun x : OV => [Var b3 eConf (⟨a1, a2, a3, a4, x, c.default⟩ : SConf) 28, OwnS a1.v iE ((takeC l most).ps) 3, OwnS a2.v eRoute ((takeC l most).rs) 52, OwnS a3.v eRule ((takeC l most).us) 76, OwnS a4.v eMeterConf ((takeC l most).ms) 57, OwnS x.v eMirrorConf ((takeC l most).xs) 59, Var b2 eConf eConf.zero 28, Var b1 eConf c 28]) ?_ (fun x hx => ?_)
  · refine draw [Var b2 eConf eConf.zero 28, Var b1 eConf c 28] zk ?_
    refine tk 0 rfl (fA 4 (.t rfl)) ?_
    refine tk 2 rfl (fA 4 (.t rfl)) ?_
    refine tk 3 rfl (Ev.ldx c.mirrors ty26 (.t rfl) SConf.l_mirrors) ?_
    refine tk 4 rfl (fA 4 (.t rfl)) ?_
    refine tk 5 rfl (Ev.ldx c.mirrors ty26 (.t rfl) SConf.l_mirrors) ?_
    refine tk 6 rfl (Ev.len Tryz.underlying26 (.t rfl) (fun w I => (hc.keep0 I.keeps).xs)) ?_
    refine tk 7 rfl (Ev.move (.t rfl)) ?_
    refine tk 8 rfl (Ev.to (v' := I ((m4 : Nat) : Int)) (Ev.min_i (.t rfl) (.t rfl)) (by rw [hm4])) ?_
    refine tk 9 rfl (Ev.sliceH Tryz.underlying26 ty59 (.t rfl) (.t rfl) (fun w I => (hc.keep0 I.keeps).xs) (fun _ => zo)) ?_
    refine al1 1 rfl ((opv (Ev.ldv ty26 (.t rfl) SConf.l_mirrors) ?_))
    refine hdn (al1 10 rfl ((app (E := eMirrorConf) Tryz.underlying26 ty59 zb59 zs59 (.t rfl) (.t rfl) (fun v8 => ?_) (hsrc := (fun w I => by have h1 := ((hc.keep0 I.keeps).xs).sub (l := 0) (k := m4) (by omega) (by omega); rw [List.drop_zero, take_min _ _ _ hm4] at h1; exact h1)) (hby := ⟨by (show _ ≤ 9223372036854775807); simp; omega, by simp; omega⟩))))
    refine hdn (tk 11 rfl (fA 4 (.t rfl)) ?_)
    refine al1 12 rfl ((stv ty26 SConf.l_mirrors (.t rfl) (.t rfl) ?_))
    refine hdn (ovr (pN (mtP (X := OV) (_) trivial)))
  obtain ⟨a5, rfl⟩ : ∃ y, y = x := ⟨x, rfl⟩
  show Sat _ _ [(2, true, .pointer (some ⟨b1, 0, none⟩)), (4, true, .pointer (some ⟨b2, 0, none⟩)), (5, true, .pointer (some ⟨b3, 0, none⟩)), (1, true, I (most : Nat))] [Var b3 eConf (⟨a1, a2, a3, a4, a5, c.default⟩ : SConf) 28, OwnS a1.v iE ((takeC l most).ps) 3, OwnS a2.v eRoute ((takeC l most).rs) 52, OwnS a3.v eRule ((takeC l most).us) 76, OwnS a4.v eMeterConf ((takeC l most).ms) 57, OwnS a5.v eMirrorConf ((takeC l most).xs) 59, Var b2 eConf eConf.zero 28, Var b1 eConf c 28]
  refine cut (X := OV) (fun x : OV => True) (fun x : OV => [(2, true, .pointer (some ⟨b1, 0, none⟩)), (4, true, .pointer (some ⟨b2, 0, none⟩)), (5, true, .pointer (some ⟨b3, 0, none⟩)), (1, true, I (most : Nat))]) (fun x : OV => [Var b3 eConf (⟨(OV.sub iE.size x 0 (takeC l most).ps.length), a2, a3, a4, a5, c.default⟩ : SConf) 28, OwnS x.v iE ((takeC l most).ps ++ [(777 : Int)]) 3, OwnS a2.v eRoute ((takeC l most).rs) 52, OwnS a3.v eRule ((takeC l most).us) 76, OwnS a4.v eMeterConf ((takeC l most).ms) 57, OwnS a5.v eMirrorConf ((takeC l most).xs) 59, Var b2 eConf eConf.zero 28, Var b1 eConf c 28]) ?_ (fun x hx => ?_)
  · refine know (fun w I => (isSl_own (E := iE) (v := a1.v) (xs := (takeC l most).ps) (T := 3) zm w I).shq) (fun hq0 => ?_)
    refine draw [Var b2 eConf eConf.zero 28, Var b1 eConf c 28] zk ?_
    refine tk 0 rfl (fA 0 (.t rfl)) ?_
    refine tk 4 rfl (fA 0 (.t rfl)) ?_
    refine all [1, 2, 5] zk (by decide) (.cons rfl ?_ (.cons rfl ?_ (.cons rfl ?_ .nil)))
    · refine (opv (Ev.ldv ty22 (.t rfl) SConf.l_ports) ?_)
      refine hdn (all [2, 5] zk (by decide) (.cons rfl ?_ (.cons rfl ?_ .nil)))
      · refine (buildSlice (E := iE) Tryz.underlying22 ty3 z3 (.cons (.c (v := I 777) rfl) .nil) rfl rfl (fun v9 => ?_))
        refine hdn (all [3, 5] zk (by decide) (.cons rfl ?_ (.cons rfl ?_ .nil)))
        · refine (app (E := iE) Tryz.underlying22 ty3 zb3 zs3 (.t rfl) (.t rfl) (fun v10 => ?_) (hby := ⟨by (show _ ≤ 9223372036854775807); simp only [List.length_cons, List.length_nil]; omega, by simp only [List.length_cons, List.length_nil]; omega⟩))
          refine hdn (al1 5 rfl ((opv (Ev.ldv ty22 (.t rfl) SConf.l_ports) ?_)))
          refine hdn (tk 6 rfl (Ev.lenQ Tryz.underlying22 (.t rfl) hq0) ?_)
          refine know (fun w I => (isSl_own (E := iE) (xs := (takeC l most).ps ++ [(777 : Int)]) (T := 3) zm w I).shq) (fun hz0 => ?_)
          refine tk 7 rfl (Ev.to (v' := (OV.sub iE.size _ 0 (takeC l most).ps.length).v) (Ev.sliceHS Tryz.underlying22 ty3 (.t rfl) (.t rfl) hz0 (fun _ => zl)) (rfl)) ?_
          refine tk 8 rfl (fA 0 (.t rfl)) ?_
          refine al1 9 rfl ((stv ty22 SConf.l_ports (.t rfl) (.t rfl) ?_))
          refine hdn (ovr (pN (mtP (X := OV) (_) trivial)))
        · refine (opv (Ev.ldv ty22 (.t rfl) SConf.l_ports) ?_)
          refine hdn (tk 6 rfl (Ev.lenQ Tryz.underlying22 (.t rfl) hq0) ?_)
          refine al1 3 rfl ((app (E := iE) Tryz.underlying22 ty3 zb3 zs3 (.t rfl) (.t rfl) (fun v11 => ?_) (hby := ⟨by (show _ ≤ 9223372036854775807); simp only [List.length_cons, List.length_nil]; omega, by simp only [List.length_cons, List.length_nil]; omega⟩)))
          refine hdn (know (fun w I => (isSl_own (E := iE) (xs := (takeC l most).ps ++ [(777 : Int)]) (T := 3) zm w I).shq) (fun hz0 => ?_))
          refine tk 7 rfl (Ev.to (v' := (OV.sub iE.size _ 0 (takeC l most).ps.length).v) (Ev.sliceHS Tryz.underlying22 ty3 (.t rfl) (.t rfl) hz0 (fun _ => zl)) (rfl)) ?_
          refine tk 8 rfl (fA 0 (.t rfl)) ?_
          refine al1 9 rfl ((stv ty22 SConf.l_ports (.t rfl) (.t rfl) ?_))
          refine hdn (ovr (pN (mtP (X := OV) (_) trivial)))
      · refine (opv (Ev.ldv ty22 (.t rfl) SConf.l_ports) ?_)
        refine hdn (tk 6 rfl (Ev.lenQ Tryz.underlying22 (.t rfl) hq0) ?_)
        refine al1 2 rfl ((buildSlice (E := iE) Tryz.underlying22 ty3 z3 (.cons (.c (v := I 777) rfl) .nil) rfl rfl (fun v12 => ?_)))
        refine hdn (al1 3 rfl ((app (E := iE) Tryz.underlying22 ty3 zb3 zs3 (.t rfl) (.t rfl) (fun v13 => ?_) (hby := ⟨by (show _ ≤ 9223372036854775807); simp only [List.length_cons, List.length_nil]; omega, by simp only [List.length_cons, List.length_nil]; omega⟩))))
        refine hdn (know (fun w I => (isSl_own (E := iE) (xs := (takeC l most).ps ++ [(777 : Int)]) (T := 3) zm w I).shq) (fun hz0 => ?_))
        refine tk 7 rfl (Ev.to (v' := (OV.sub iE.size _ 0 (takeC l most).ps.length).v) (Ev.sliceHS Tryz.underlying22 ty3 (.t rfl) (.t rfl) hz0 (fun _ => zl)) (rfl)) ?_
        refine tk 8 rfl (fA 0 (.t rfl)) ?_
        refine al1 9 rfl ((stv ty22 SConf.l_ports (.t rfl) (.t rfl) ?_))
        refine hdn (ovr (pN (mtP (X := OV) (_) trivial)))
    · refine (buildSlice (E := iE) Tryz.underlying22 ty3 z3 (.cons (.c (v := I 777) rfl) .nil) rfl rfl (fun v14 => ?_))
      refine hdn (all [1, 5] zk (by decide) (.cons rfl ?_ (.cons rfl ?_ .nil)))
      · refine (opv (Ev.ldv ty22 (.t rfl) SConf.l_ports) ?_)
        refine hdn (all [3, 5] zk (by decide) (.cons rfl ?_ (.cons rfl ?_ .nil)))
        · refine (app (E := iE) Tryz.underlying22 ty3 zb3 zs3 (.t rfl) (.t rfl) (fun v15 => ?_) (hby := ⟨by (show _ ≤ 9223372036854775807); simp only [List.length_cons, List.length_nil]; omega, by simp only [List.length_cons, List.length_nil]; omega⟩))
          refine hdn (al1 5 rfl ((opv (Ev.ldv ty22 (.t rfl) SConf.l_ports) ?_)))
          refine hdn (tk 6 rfl (Ev.lenQ Tryz.underlying22 (.t rfl) hq0) ?_)
          refine know (fun w I => (isSl_own (E := iE) (xs := (takeC l most).ps ++ [(777 : Int)]) (T := 3) zm w I).shq) (fun hz0 => ?_)
          refine tk 7 rfl (Ev.to (v' := (OV.sub iE.size _ 0 (takeC l most).ps.length).v) (Ev.sliceHS Tryz.underlying22 ty3 (.t rfl) (.t rfl) hz0 (fun _ => zl)) (rfl)) ?_
          refine tk 8 rfl (fA 0 (.t rfl)) ?_
          refine al1 9 rfl ((stv ty22 SConf.l_ports (.t rfl) (.t rfl) ?_))
          refine hdn (ovr (pN (mtP (X := OV) (_) trivial)))
        · refine (opv (Ev.ldv ty22 (.t rfl) SConf.l_ports) ?_)
          refine hdn (tk 6 rfl (Ev.lenQ Tryz.underlying22 (.t rfl) hq0) ?_)
          refine al1 3 rfl ((app (E := iE) Tryz.underlying22 ty3 zb3 zs3 (.t rfl) (.t rfl) (fun v16 => ?_) (hby := ⟨by (show _ ≤ 9223372036854775807); simp only [List.length_cons, List.length_nil]; omega, by simp only [List.length_cons, List.length_nil]; omega⟩)))
          refine hdn (know (fun w I => (isSl_own (E := iE) (xs := (takeC l most).ps ++ [(777 : Int)]) (T := 3) zm w I).shq) (fun hz0 => ?_))
          refine tk 7 rfl (Ev.to (v' := (OV.sub iE.size _ 0 (takeC l most).ps.length).v) (Ev.sliceHS Tryz.underlying22 ty3 (.t rfl) (.t rfl) hz0 (fun _ => zl)) (rfl)) ?_
          refine tk 8 rfl (fA 0 (.t rfl)) ?_
          refine al1 9 rfl ((stv ty22 SConf.l_ports (.t rfl) (.t rfl) ?_))
          refine hdn (ovr (pN (mtP (X := OV) (_) trivial)))
      · refine (opv (Ev.ldv ty22 (.t rfl) SConf.l_ports) ?_)
        refine hdn (tk 6 rfl (Ev.lenQ Tryz.underlying22 (.t rfl) hq0) ?_)
        refine al1 1 rfl ((opv (Ev.ldv ty22 (.t rfl) SConf.l_ports) ?_))
        refine hdn (al1 3 rfl ((app (E := iE) Tryz.underlying22 ty3 zb3 zs3 (.t rfl) (.t rfl) (fun v17 => ?_) (hby := ⟨by (show _ ≤ 9223372036854775807); simp only [List.length_cons, List.length_nil]; omega, by simp only [List.length_cons, List.length_nil]; omega⟩))))
        refine hdn (know (fun w I => (isSl_own (E := iE) (xs := (takeC l most).ps ++ [(777 : Int)]) (T := 3) zm w I).shq) (fun hz0 => ?_))
        refine tk 7 rfl (Ev.to (v' := (OV.sub iE.size _ 0 (takeC l most).ps.length).v) (Ev.sliceHS Tryz.underlying22 ty3 (.t rfl) (.t rfl) hz0 (fun _ => zl)) (rfl)) ?_
        refine tk 8 rfl (fA 0 (.t rfl)) ?_
        refine al1 9 rfl ((stv ty22 SConf.l_ports (.t rfl) (.t rfl) ?_))
        refine hdn (ovr (pN (mtP (X := OV) (_) trivial)))
    · refine (opv (Ev.ldv ty22 (.t rfl) SConf.l_ports) ?_)
      refine hdn (tk 6 rfl (Ev.lenQ Tryz.underlying22 (.t rfl) hq0) ?_)
      refine all [1, 2] zk (by decide) (.cons rfl ?_ (.cons rfl ?_ .nil))
      · refine (opv (Ev.ldv ty22 (.t rfl) SConf.l_ports) ?_)
        refine hdn (al1 2 rfl ((buildSlice (E := iE) Tryz.underlying22 ty3 z3 (.cons (.c (v := I 777) rfl) .nil) rfl rfl (fun v18 => ?_))))
        refine hdn (al1 3 rfl ((app (E := iE) Tryz.underlying22 ty3 zb3 zs3 (.t rfl) (.t rfl) (fun v19 => ?_) (hby := ⟨by (show _ ≤ 9223372036854775807); simp only [List.length_cons, List.length_nil]; omega, by simp only [List.length_cons, List.length_nil]; omega⟩))))
        refine hdn (know (fun w I => (isSl_own (E := iE) (xs := (takeC l most).ps ++ [(777 : Int)]) (T := 3) zm w I).shq) (fun hz0 => ?_))
        refine tk 7 rfl (Ev.to (v' := (OV.sub iE.size _ 0 (takeC l most).ps.length).v) (Ev.sliceHS Tryz.underlying22 ty3 (.t rfl) (.t rfl) hz0 (fun _ => zl)) (rfl)) ?_
        refine tk 8 rfl (fA 0 (.t rfl)) ?_
        refine al1 9 rfl ((stv ty22 SConf.l_ports (.t rfl) (.t rfl) ?_))
        refine hdn (ovr (pN (mtP (X := OV) (_) trivial)))
      · refine (buildSlice (E := iE) Tryz.underlying22 ty3 z3 (.cons (.c (v := I 777) rfl) .nil) rfl rfl (fun v20 => ?_))
        refine hdn (al1 1 rfl ((opv (Ev.ldv ty22 (.t rfl) SConf.l_ports) ?_)))
        refine hdn (al1 3 rfl ((app (E := iE) Tryz.underlying22 ty3 zb3 zs3 (.t rfl) (.t rfl) (fun v21 => ?_) (hby := ⟨by (show _ ≤ 9223372036854775807); simp only [List.length_cons, List.length_nil]; omega, by simp only [List.length_cons, List.length_nil]; omega⟩))))
        refine hdn (know (fun w I => (isSl_own (E := iE) (xs := (takeC l most).ps ++ [(777 : Int)]) (T := 3) zm w I).shq) (fun hz0 => ?_))
        refine tk 7 rfl (Ev.to (v' := (OV.sub iE.size _ 0 (takeC l most).ps.length).v) (Ev.sliceHS Tryz.underlying22 ty3 (.t rfl) (.t rfl) hz0 (fun _ => zl)) (rfl)) ?_
        refine tk 8 rfl (fA 0 (.t rfl)) ?_
        refine al1 9 rfl ((stv ty22 SConf.l_ports (.t rfl) (.t rfl) ?_))
        refine hdn (ovr (pN (mtP (X := OV) (_) trivial)))
  obtain ⟨z1, rfl⟩ : ∃ y, y = x := ⟨x, rfl⟩
  show Sat _ _ [(2, true, .pointer (some ⟨b1, 0, none⟩)), (4, true, .pointer (some ⟨b2, 0, none⟩)), (5, true, .pointer (some ⟨b3, 0, none⟩)), (1, true, I (most : Nat))] [Var b3 eConf (⟨(OV.sub iE.size z1 0 (takeC l most).ps.length), a2, a3, a4, a5, c.default⟩ : SConf) 28, OwnS z1.v iE ((takeC l most).ps ++ [(777 : Int)]) 3, OwnS a2.v eRoute ((takeC l most).rs) 52, OwnS a3.v eRule ((takeC l most).us) 76, OwnS a4.v eMeterConf ((takeC l most).ms) 57, OwnS a5.v eMirrorConf ((takeC l most).xs) 59, Var b2 eConf eConf.zero 28, Var b1 eConf c 28]
  refine cut (X := OV) (fun x : OV => True) (fun x : OV => [(2, true, .pointer (some ⟨b1, 0, none⟩)), (4, true, .pointer (some ⟨b2, 0, none⟩)), (5, true, .pointer (some ⟨b3, 0, none⟩)), (1, true, I (most : Nat))]) (fun x : OV => [Var b3 eConf (⟨(OV.sub iE.size z1 0 (takeC l most).ps.length), (OV.sub eRoute.size x 0 (takeC l most).rs.length), a3, a4, a5, c.default⟩ : SConf) 28, OwnS z1.v iE ((takeC l most).ps ++ [(777 : Int)]) 3, OwnS x.v eRoute ((takeC l most).rs ++ [mkRo]) 52, OwnS a3.v eRule ((takeC l most).us) 76, OwnS a4.v eMeterConf ((takeC l most).ms) 57, OwnS a5.v eMirrorConf ((takeC l most).xs) 59, Var b2 eConf eConf.zero 28, Var b1 eConf c 28]) ?_ (fun x hx => ?_)
  · refine know (fun w I => (isSl_own (E := eRoute) (v := a2.v) (xs := (takeC l most).rs) (T := 52) zm w I).shq) (fun hq1 => ?_)
    refine draw [Var b2 eConf eConf.zero 28, Var b1 eConf c 28] zk ?_
    refine tk 0 rfl (fA 1 (.t rfl)) ?_
    refine tk 2 rfl (Ev.buildS (fs := _) (places := [(0, 18), (18, 1)]) z52 rfl Tryz.underlying52 zk (.cons (.c (v := I 777) rfl) .nil) (Fills.cons SRoute.l_out rfl Fills.nil)) ?_
    refine tk 5 rfl (fA 1 (.t rfl)) ?_
    refine all [1, 3, 6] zk (by decide) (.cons rfl ?_ (.cons rfl ?_ (.cons rfl ?_ .nil)))
    · refine (opv (Ev.ldv ty23 (.t rfl) SConf.l_routes) ?_)
      refine hdn (all [3, 6] zk (by decide) (.cons rfl ?_ (.cons rfl ?_ .nil)))
      · refine (buildSlice (E := eRoute) Tryz.underlying23 ty52 z52 (.cons (.t rfl) .nil) rfl rfl (fun v22 => ?_))
        refine hdn (all [4, 6] zk (by decide) (.cons rfl ?_ (.cons rfl ?_ .nil)))
        · refine (app (E := eRoute) Tryz.underlying23 ty52 zb52 zs52 (.t rfl) (.t rfl) (fun v23 => ?_) (hby := ⟨by (show _ ≤ 9223372036854775807); simp only [List.length_cons, List.length_nil]; omega, by simp only [List.length_cons, List.length_nil]; omega⟩))
          refine hdn (al1 6 rfl ((opv (Ev.ldv ty23 (.t rfl) SConf.l_routes) ?_)))
          refine hdn (tk 7 rfl (Ev.lenQ Tryz.underlying23 (.t rfl) hq1) ?_)
          refine know (fun w I => (isSl_own (E := eRoute) (xs := (takeC l most).rs ++ [mkRo]) (T := 52) zm w I).shq) (fun hz1 => ?_)
          refine tk 8 rfl (Ev.to (v' := (OV.sub eRoute.size _ 0 (takeC l most).rs.length).v) (Ev.sliceHS Tryz.underlying23 ty52 (.t rfl) (.t rfl) hz1 (fun _ => zl)) (rfl)) ?_
          refine tk 9 rfl (fA 1 (.t rfl)) ?_
          refine al1 10 rfl ((stv ty23 SConf.l_routes (.t rfl) (.t rfl) ?_))
          refine hdn (ovr (pN (mtP (X := OV) (_) trivial)))
        · refine (opv (Ev.ldv ty23 (.t rfl) SConf.l_routes) ?_)
          refine hdn (tk 7 rfl (Ev.lenQ Tryz.underlying23 (.t rfl) hq1) ?_)
          refine al1 4 rfl ((app (E := eRoute) Tryz.underlying23 ty52 zb52 zs52 (.t rfl) (.t rfl) (fun v24 => ?_) (hby := ⟨by (show _ ≤ 9223372036854775807); simp only [List.length_cons, List.length_nil]; omega, by simp only [List.length_cons, List.length_nil]; omega⟩)))
          refine hdn (know (fun w I => (isSl_own (E := eRoute) (xs := (takeC l most).rs ++ [mkRo]) (T := 52) zm w I).shq) (fun hz1 => ?_))
          refine tk 8 rfl (Ev.to (v' := (OV.sub eRoute.size _ 0 (takeC l most).rs.length).v) (Ev.sliceHS Tryz.underlying23 ty52 (.t rfl) (.t rfl) hz1 (fun _ => zl)) (rfl)) ?_
          refine tk 9 rfl (fA 1 (.t rfl)) ?_
          refine al1 10 rfl ((stv ty23 SConf.l_routes (.t rfl) (.t rfl) ?_))
          refine hdn (ovr (pN (mtP (X := OV) (_) trivial)))
      · refine (opv (Ev.ldv ty23 (.t rfl) SConf.l_routes) ?_)
        refine hdn (tk 7 rfl (Ev.lenQ Tryz.underlying23 (.t rfl) hq1) ?_)
        refine al1 3 rfl ((buildSlice (E := eRoute) Tryz.underlying23 ty52 z52 (.cons (.t rfl) .nil) rfl rfl (fun v25 => ?_)))
        refine hdn (al1 4 rfl ((app (E := eRoute) Tryz.underlying23 ty52 zb52 zs52 (.t rfl) (.t rfl) (fun v26 => ?_) (hby := ⟨by (show _ ≤ 9223372036854775807); simp only [List.length_cons, List.length_nil]; omega, by simp only [List.length_cons, List.length_nil]; omega⟩))))
        refine hdn (know (fun w I => (isSl_own (E := eRoute) (xs := (takeC l most).rs ++ [mkRo]) (T := 52) zm w I).shq) (fun hz1 => ?_))
        refine tk 8 rfl (Ev.to (v' := (OV.sub eRoute.size _ 0 (takeC l most).rs.length).v) (Ev.sliceHS Tryz.underlying23 ty52 (.t rfl) (.t rfl) hz1 (fun _ => zl)) (rfl)) ?_
        refine tk 9 rfl (fA 1 (.t rfl)) ?_
        refine al1 10 rfl ((stv ty23 SConf.l_routes (.t rfl) (.t rfl) ?_))
        refine hdn (ovr (pN (mtP (X := OV) (_) trivial)))
    · refine (buildSlice (E := eRoute) Tryz.underlying23 ty52 z52 (.cons (.t rfl) .nil) rfl rfl (fun v27 => ?_))
      refine hdn (all [1, 6] zk (by decide) (.cons rfl ?_ (.cons rfl ?_ .nil)))
      · refine (opv (Ev.ldv ty23 (.t rfl) SConf.l_routes) ?_)
        refine hdn (all [4, 6] zk (by decide) (.cons rfl ?_ (.cons rfl ?_ .nil)))
        · refine (app (E := eRoute) Tryz.underlying23 ty52 zb52 zs52 (.t rfl) (.t rfl) (fun v28 => ?_) (hby := ⟨by (show _ ≤ 9223372036854775807); simp only [List.length_cons, List.length_nil]; omega, by simp only [List.length_cons, List.length_nil]; omega⟩))
          refine hdn (al1 6 rfl ((opv (Ev.ldv ty23 (.t rfl) SConf.l_routes) ?_)))
          refine hdn (tk 7 rfl (Ev.lenQ Tryz.underlying23 (.t rfl) hq1) ?_)
          refine know (fun w I => (isSl_own (E := eRoute) (xs := (takeC l most).rs ++ [mkRo]) (T := 52) zm w I).shq) (fun hz1 => ?_)
          refine tk 8 rfl (Ev.to (v' := (OV.sub eRoute.size _ 0 (takeC l most).rs.length).v) (Ev.sliceHS Tryz.underlying23 ty52 (.t rfl) (.t rfl) hz1 (fun _ => zl)) (rfl)) ?_
          refine tk 9 rfl (fA 1 (.t rfl)) ?_
          refine al1 10 rfl ((stv ty23 SConf.l_routes (.t rfl) (.t rfl) ?_))
          refine hdn (ovr (pN (mtP (X := OV) (_) trivial)))
        · refine (opv (Ev.ldv ty23 (.t rfl) SConf.l_routes) ?_)
          refine hdn (tk 7 rfl (Ev.lenQ Tryz.underlying23 (.t rfl) hq1) ?_)
          refine al1 4 rfl ((app (E := eRoute) Tryz.underlying23 ty52 zb52 zs52 (.t rfl) (.t rfl) (fun v29 => ?_) (hby := ⟨by (show _ ≤ 9223372036854775807); simp only [List.length_cons, List.length_nil]; omega, by simp only [List.length_cons, List.length_nil]; omega⟩)))
          refine hdn (know (fun w I => (isSl_own (E := eRoute) (xs := (takeC l most).rs ++ [mkRo]) (T := 52) zm w I).shq) (fun hz1 => ?_))
          refine tk 8 rfl (Ev.to (v' := (OV.sub eRoute.size _ 0 (takeC l most).rs.length).v) (Ev.sliceHS Tryz.underlying23 ty52 (.t rfl) (.t rfl) hz1 (fun _ => zl)) (rfl)) ?_
          refine tk 9 rfl (fA 1 (.t rfl)) ?_
          refine al1 10 rfl ((stv ty23 SConf.l_routes (.t rfl) (.t rfl) ?_))
          refine hdn (ovr (pN (mtP (X := OV) (_) trivial)))
      · refine (opv (Ev.ldv ty23 (.t rfl) SConf.l_routes) ?_)
        refine hdn (tk 7 rfl (Ev.lenQ Tryz.underlying23 (.t rfl) hq1) ?_)
        refine al1 1 rfl ((opv (Ev.ldv ty23 (.t rfl) SConf.l_routes) ?_))
        refine hdn (al1 4 rfl ((app (E := eRoute) Tryz.underlying23 ty52 zb52 zs52 (.t rfl) (.t rfl) (fun v30 => ?_) (hby := ⟨by (show _ ≤ 9223372036854775807); simp only [List.length_cons, List.length_nil]; omega, by simp only [List.length_cons, List.length_nil]; omega⟩))))
        refine hdn (know (fun w I => (isSl_own (E := eRoute) (xs := (takeC l most).rs ++ [mkRo]) (T := 52) zm w I).shq) (fun hz1 => ?_))
        refine tk 8 rfl (Ev.to (v' := (OV.sub eRoute.size _ 0 (takeC l most).rs.length).v) (Ev.sliceHS Tryz.underlying23 ty52 (.t rfl) (.t rfl) hz1 (fun _ => zl)) (rfl)) ?_
        refine tk 9 rfl (fA 1 (.t rfl)) ?_
        refine al1 10 rfl ((stv ty23 SConf.l_routes (.t rfl) (.t rfl) ?_))
        refine hdn (ovr (pN (mtP (X := OV) (_) trivial)))
    · refine (opv (Ev.ldv ty23 (.t rfl) SConf.l_routes) ?_)
      refine hdn (tk 7 rfl (Ev.lenQ Tryz.underlying23 (.t rfl) hq1) ?_)
      refine all [1, 3] zk (by decide) (.cons rfl ?_ (.cons rfl ?_ .nil))
      · refine (opv (Ev.ldv ty23 (.t rfl) SConf.l_routes) ?_)
        refine hdn (al1 3 rfl ((buildSlice (E := eRoute) Tryz.underlying23 ty52 z52 (.cons (.t rfl) .nil) rfl rfl (fun v31 => ?_))))
        refine hdn (al1 4 rfl ((app (E := eRoute) Tryz.underlying23 ty52 zb52 zs52 (.t rfl) (.t rfl) (fun v32 => ?_) (hby := ⟨by (show _ ≤ 9223372036854775807); simp only [List.length_cons, List.length_nil]; omega, by simp only [List.length_cons, List.length_nil]; omega⟩))))
        refine hdn (know (fun w I => (isSl_own (E := eRoute) (xs := (takeC l most).rs ++ [mkRo]) (T := 52) zm w I).shq) (fun hz1 => ?_))
        refine tk 8 rfl (Ev.to (v' := (OV.sub eRoute.size _ 0 (takeC l most).rs.length).v) (Ev.sliceHS Tryz.underlying23 ty52 (.t rfl) (.t rfl) hz1 (fun _ => zl)) (rfl)) ?_
        refine tk 9 rfl (fA 1 (.t rfl)) ?_
        refine al1 10 rfl ((stv ty23 SConf.l_routes (.t rfl) (.t rfl) ?_))
        refine hdn (ovr (pN (mtP (X := OV) (_) trivial)))
      · refine (buildSlice (E := eRoute) Tryz.underlying23 ty52 z52 (.cons (.t rfl) .nil) rfl rfl (fun v33 => ?_))
        refine hdn (al1 1 rfl ((opv (Ev.ldv ty23 (.t rfl) SConf.l_routes) ?_)))
        refine hdn (al1 4 rfl ((app (E := eRoute) Tryz.underlying23 ty52 zb52 zs52 (.t rfl) (.t rfl) (fun v34 => ?_) (hby := ⟨by (show _ ≤ 9223372036854775807); simp only [List.length_cons, List.length_nil]; omega, by simp only [List.length_cons, List.length_nil]; omega⟩))))
        refine hdn (know (fun w I => (isSl_own (E := eRoute) (xs := (takeC l most).rs ++ [mkRo]) (T := 52) zm w I).shq) (fun hz1 => ?_))
        refine tk 8 rfl (Ev.to (v' := (OV.sub eRoute.size _ 0 (takeC l most).rs.length).v) (Ev.sliceHS Tryz.underlying23 ty52 (.t rfl) (.t rfl) hz1 (fun _ => zl)) (rfl)) ?_
        refine tk 9 rfl (fA 1 (.t rfl)) ?_
        refine al1 10 rfl ((stv ty23 SConf.l_routes (.t rfl) (.t rfl) ?_))
        refine hdn (ovr (pN (mtP (X := OV) (_) trivial)))
  obtain ⟨z2, rfl⟩ : ∃ y, y = x := ⟨x, rfl⟩
  show Sat _ _ [(2, true, .pointer (some ⟨b1, 0, none⟩)), (4, true, .pointer (some ⟨b2, 0, none⟩)), (5, true, .pointer (some ⟨b3, 0, none⟩)), (1, true, I (most : Nat))] [Var b3 eConf (⟨(OV.sub iE.size z1 0 (takeC l most).ps.length), (OV.sub eRoute.size z2 0 (takeC l most).rs.length), a3, a4, a5, c.default⟩ : SConf) 28, OwnS z1.v iE ((takeC l most).ps ++ [(777 : Int)]) 3, OwnS z2.v eRoute ((takeC l most).rs ++ [mkRo]) 52, OwnS a3.v eRule ((takeC l most).us) 76, OwnS a4.v eMeterConf ((takeC l most).ms) 57, OwnS a5.v eMirrorConf ((takeC l most).xs) 59, Var b2 eConf eConf.zero 28, Var b1 eConf c 28]
  refine cut (X := OV) (fun x : OV => True) (fun x : OV => [(2, true, .pointer (some ⟨b1, 0, none⟩)), (4, true, .pointer (some ⟨b2, 0, none⟩)), (5, true, .pointer (some ⟨b3, 0, none⟩)), (1, true, I (most : Nat))]) (fun x : OV => [Var b3 eConf (⟨(OV.sub iE.size z1 0 (takeC l most).ps.length), (OV.sub eRoute.size z2 0 (takeC l most).rs.length), (OV.sub eRule.size x 0 (takeC l most).us.length), a4, a5, c.default⟩ : SConf) 28, OwnS z1.v iE ((takeC l most).ps ++ [(777 : Int)]) 3, OwnS z2.v eRoute ((takeC l most).rs ++ [mkRo]) 52, OwnS x.v eRule ((takeC l most).us ++ [mkRu]) 76, OwnS a4.v eMeterConf ((takeC l most).ms) 57, OwnS a5.v eMirrorConf ((takeC l most).xs) 59, Var b2 eConf eConf.zero 28, Var b1 eConf c 28]) ?_ (fun x hx => ?_)
  · refine know (fun w I => (isSl_own (E := eRule) (v := a3.v) (xs := (takeC l most).us) (T := 76) zm w I).shq) (fun hq2 => ?_)
    refine draw [Var b2 eConf eConf.zero 28, Var b1 eConf c 28] zk ?_
    refine tk 0 rfl (fA 2 (.t rfl)) ?_
    refine tk 2 rfl (Ev.buildS (fs := _) (places := [(0, 1), (1, 44), (45, 1), (46, 1), (47, 1), (48, 1)]) z76 rfl Tryz.underlying76 zk (.cons (.c (v := I 777) rfl) .nil) (Fills.cons SRule.l_out rfl Fills.nil)) ?_
    refine tk 5 rfl (fA 2 (.t rfl)) ?_
    refine all [1, 3, 6] zk (by decide) (.cons rfl ?_ (.cons rfl ?_ (.cons rfl ?_ .nil)))
    · refine (opv (Ev.ldv ty24 (.t rfl) SConf.l_rules) ?_)
      refine hdn (all [3, 6] zk (by decide) (.cons rfl ?_ (.cons rfl ?_ .nil)))
      · refine (buildSlice (E := eRule) Tryz.underlying24 ty76 z76 (.cons (.t rfl) .nil) rfl rfl (fun v35 => ?_))
        refine hdn (all [4, 6] zk (by decide) (.cons rfl ?_ (.cons rfl ?_ .nil)))
        · refine (app (E := eRule) Tryz.underlying24 ty76 zb76 zs76 (.t rfl) (.t rfl) (fun v36 => ?_) (hby := ⟨by (show _ ≤ 9223372036854775807); simp only [List.length_cons, List.length_nil]; omega, by simp only [List.length_cons, List.length_nil]; omega⟩))
          refine hdn (al1 6 rfl ((opv (Ev.ldv ty24 (.t rfl) SConf.l_rules) ?_)))
          refine hdn (tk 7 rfl (Ev.lenQ Tryz.underlying24 (.t rfl) hq2) ?_)
          refine know (fun w I => (isSl_own (E := eRule) (xs := (takeC l most).us ++ [mkRu]) (T := 76) zm w I).shq) (fun hz2 => ?_)
          refine tk 8 rfl (Ev.to (v' := (OV.sub eRule.size _ 0 (takeC l most).us.length).v) (Ev.sliceHS Tryz.underlying24 ty76 (.t rfl) (.t rfl) hz2 (fun _ => zl)) (rfl)) ?_
          refine tk 9 rfl (fA 2 (.t rfl)) ?_
          refine al1 10 rfl ((stv ty24 SConf.l_rules (.t rfl) (.t rfl) ?_))
          refine hdn (ovr (pN (mtP (X := OV) (_) trivial)))
        · refine (opv (Ev.ldv ty24 (.t rfl) SConf.l_rules) ?_)
          refine hdn (tk 7 rfl (Ev.lenQ Tryz.underlying24 (.t rfl) hq2) ?_)
          refine al1 4 rfl ((app (E := eRule) Tryz.underlying24 ty76 zb76 zs76 (.t rfl) (.t rfl) (fun v37 => ?_) (hby := ⟨by (show _ ≤ 9223372036854775807); simp only [List.length_cons, List.length_nil]; omega, by simp only [List.length_cons, List.length_nil]; omega⟩)))
          refine hdn (know (fun w I => (isSl_own (E := eRule) (xs := (takeC l most).us ++ [mkRu]) (T := 76) zm w I).shq) (fun hz2 => ?_))
          refine tk 8 rfl (Ev.to (v' := (OV.sub eRule.size _ 0 (takeC l most).us.length).v) (Ev.sliceHS Tryz.underlying24 ty76 (.t rfl) (.t rfl) hz2 (fun _ => zl)) (rfl)) ?_
          refine tk 9 rfl (fA 2 (.t rfl)) ?_
          refine al1 10 rfl ((stv ty24 SConf.l_rules (.t rfl) (.t rfl) ?_))
          refine hdn (ovr (pN (mtP (X := OV) (_) trivial)))
      · refine (opv (Ev.ldv ty24 (.t rfl) SConf.l_rules) ?_)
        refine hdn (tk 7 rfl (Ev.lenQ Tryz.underlying24 (.t rfl) hq2) ?_)
        refine al1 3 rfl ((buildSlice (E := eRule) Tryz.underlying24 ty76 z76 (.cons (.t rfl) .nil) rfl rfl (fun v38 => ?_)))
        refine hdn (al1 4 rfl ((app (E := eRule) Tryz.underlying24 ty76 zb76 zs76 (.t rfl) (.t rfl) (fun v39 => ?_) (hby := ⟨by (show _ ≤ 9223372036854775807); simp only [List.length_cons, List.length_nil]; omega, by simp only [List.length_cons, List.length_nil]; omega⟩))))
        refine hdn (know (fun w I => (isSl_own (E := eRule) (xs := (takeC l most).us ++ [mkRu]) (T := 76) zm w I).shq) (fun hz2 => ?_))
        refine tk 8 rfl (Ev.to (v' := (OV.sub eRule.size _ 0 (takeC l most).us.length).v) (Ev.sliceHS Tryz.underlying24 ty76 (.t rfl) (.t rfl) hz2 (fun _ => zl)) (rfl)) ?_
        refine tk 9 rfl (fA 2 (.t rfl)) ?_
        refine al1 10 rfl ((stv ty24 SConf.l_rules (.t rfl) (.t rfl) ?_))
        refine hdn (ovr (pN (mtP (X := OV) (_) trivial)))
    · refine (buildSlice (E := eRule) Tryz.underlying24 ty76 z76 (.cons (.t rfl) .nil) rfl rfl (fun v40 => ?_))
      refine hdn (all [1, 6] zk (by decide) (.cons rfl ?_ (.cons rfl ?_ .nil)))
      · refine (opv (Ev.ldv ty24 (.t rfl) SConf.l_rules) ?_)
        refine hdn (all [4, 6] zk (by decide) (.cons rfl ?_ (.cons rfl ?_ .nil)))
        · refine (app (E := eRule) Tryz.underlying24 ty76 zb76 zs76 (.t rfl) (.t rfl) (fun v41 => ?_) (hby := ⟨by (show _ ≤ 9223372036854775807); simp only [List.length_cons, List.length_nil]; omega, by simp only [List.length_cons, List.length_nil]; omega⟩))
          refine hdn (al1 6 rfl ((opv (Ev.ldv ty24 (.t rfl) SConf.l_rules) ?_)))
          refine hdn (tk 7 rfl (Ev.lenQ Tryz.underlying24 (.t rfl) hq2) ?_)
          refine know (fun w I => (isSl_own (E := eRule) (xs := (takeC l most).us ++ [mkRu]) (T := 76) zm w I).shq) (fun hz2 => ?_)
          refine tk 8 rfl (Ev.to (v' := (OV.sub eRule.size _ 0 (takeC l most).us.length).v) (Ev.sliceHS Tryz.underlying24 ty76 (.t rfl) (.t rfl) hz2 (fun _ => zl)) (rfl)) ?_
          refine tk 9 rfl (fA 2 (.t rfl)) ?_
          refine al1 10 rfl ((stv ty24 SConf.l_rules (.t rfl) (.t rfl) ?_))
          refine hdn (ovr (pN (mtP (X := OV) (_) trivial)))
        · refine (opv (Ev.ldv ty24 (.t rfl) SConf.l_rules) ?_)
          refine hdn (tk 7 rfl (Ev.lenQ Tryz.underlying24 (.t rfl) hq2) ?_)
          refine al1 4 rfl ((app (E := eRule) Tryz.underlying24 ty76 zb76 zs76 (.t rfl) (.t rfl) (fun v42 => ?_) (hby := ⟨by (show _ ≤ 9223372036854775807); simp only [List.length_cons, List.length_nil]; omega, by simp only [List.length_cons, List.length_nil]; omega⟩)))
          refine hdn (know (fun w I => (isSl_own (E := eRule) (xs := (takeC l most).us ++ [mkRu]) (T := 76) zm w I).shq) (fun hz2 => ?_))
          refine tk 8 rfl (Ev.to (v' := (OV.sub eRule.size _ 0 (takeC l most).us.length).v) (Ev.sliceHS Tryz.underlying24 ty76 (.t rfl) (.t rfl) hz2 (fun _ => zl)) (rfl)) ?_
          refine tk 9 rfl (fA 2 (.t rfl)) ?_
          refine al1 10 rfl ((stv ty24 SConf.l_rules (.t rfl) (.t rfl) ?_))
          refine hdn (ovr (pN (mtP (X := OV) (_) trivial)))
      · refine (opv (Ev.ldv ty24 (.t rfl) SConf.l_rules) ?_)
        refine hdn (tk 7 rfl (Ev.lenQ Tryz.underlying24 (.t rfl) hq2) ?_)
        refine al1 1 rfl ((opv (Ev.ldv ty24 (.t rfl) SConf.l_rules) ?_))
        refine hdn (al1 4 rfl ((app (E := eRule) Tryz.underlying24 ty76 zb76 zs76 (.t rfl) (.t rfl) (fun v43 => ?_) (hby := ⟨by (show _ ≤ 9223372036854775807); simp only [List.length_cons, List.length_nil]; omega, by simp only [List.length_cons, List.length_nil]; omega⟩))))
        refine hdn (know (fun w I => (isSl_own (E := eRule) (xs := (takeC l most).us ++ [mkRu]) (T := 76) zm w I).shq) (fun hz2 => ?_))
        refine tk 8 rfl (Ev.to (v' := (OV.sub eRule.size _ 0 (takeC l most).us.length).v) (Ev.sliceHS Tryz.underlying24 ty76 (.t rfl) (.t rfl) hz2 (fun _ => zl)) (rfl)) ?_
        refine tk 9 rfl (fA 2 (.t rfl)) ?_
        refine al1 10 rfl ((stv ty24 SConf.l_rules (.t rfl) (.t rfl) ?_))
        refine hdn (ovr (pN (mtP (X := OV) (_) trivial)))
    · refine (opv (Ev.ldv ty24 (.t rfl) SConf.l_rules) ?_)
      refine hdn (tk 7 rfl (Ev.lenQ Tryz.underlying24 (.t rfl) hq2) ?_)
      refine all [1, 3] zk (by decide) (.cons rfl ?_ (.cons rfl ?_ .nil))
      · refine (opv (Ev.ldv ty24 (.t rfl) SConf.l_rules) ?_)
        refine hdn (al1 3 rfl ((buildSlice (E := eRule) Tryz.underlying24 ty76 z76 (.cons (.t rfl) .nil) rfl rfl (fun v44 => ?_))))
        refine hdn (al1 4 rfl ((app (E := eRule) Tryz.underlying24 ty76 zb76 zs76 (.t rfl) (.t rfl) (fun v45 => ?_) (hby := ⟨by (show _ ≤ 9223372036854775807); simp only [List.length_cons, List.length_nil]; omega, by simp only [List.length_cons, List.length_nil]; omega⟩))))
        refine hdn (know (fun w I => (isSl_own (E := eRule) (xs := (takeC l most).us ++ [mkRu]) (T := 76) zm w I).shq) (fun hz2 => ?_))
        refine tk 8 rfl (Ev.to (v' := (OV.sub eRule.size _ 0 (takeC l most).us.length).v) (Ev.sliceHS Tryz.underlying24 ty76 (.t rfl) (.t rfl) hz2 (fun _ => zl)) (rfl)) ?_
        refine tk 9 rfl (fA 2 (.t rfl)) ?_
        refine al1 10 rfl ((stv ty24 SConf.l_rules (.t rfl) (.t rfl) ?_))
        refine hdn (ovr (pN (mtP (X := OV) (_) trivial)))
      · refine (buildSlice (E := eRule) Tryz.underlying24 ty76 z76 (.cons (.t rfl) .nil) rfl rfl (fun v46 => ?_))
        refine hdn (al1 1 rfl ((opv (Ev.ldv ty24 (.t rfl) SConf.l_rules) ?_)))
        refine hdn (al1 4 rfl ((app (E := eRule) Tryz.underlying24 ty76 zb76 zs76 (.t rfl) (.t rfl) (fun v47 => ?_) (hby := ⟨by (show _ ≤ 9223372036854775807); simp only [List.length_cons, List.length_nil]; omega, by simp only [List.length_cons, List.length_nil]; omega⟩))))
        refine hdn (know (fun w I => (isSl_own (E := eRule) (xs := (takeC l most).us ++ [mkRu]) (T := 76) zm w I).shq) (fun hz2 => ?_))
        refine tk 8 rfl (Ev.to (v' := (OV.sub eRule.size _ 0 (takeC l most).us.length).v) (Ev.sliceHS Tryz.underlying24 ty76 (.t rfl) (.t rfl) hz2 (fun _ => zl)) (rfl)) ?_
        refine tk 9 rfl (fA 2 (.t rfl)) ?_
        refine al1 10 rfl ((stv ty24 SConf.l_rules (.t rfl) (.t rfl) ?_))
        refine hdn (ovr (pN (mtP (X := OV) (_) trivial)))
  obtain ⟨z3, rfl⟩ : ∃ y, y = x := ⟨x, rfl⟩
  show Sat _ _ [(2, true, .pointer (some ⟨b1, 0, none⟩)), (4, true, .pointer (some ⟨b2, 0, none⟩)), (5, true, .pointer (some ⟨b3, 0, none⟩)), (1, true, I (most : Nat))] [Var b3 eConf (⟨(OV.sub iE.size z1 0 (takeC l most).ps.length), (OV.sub eRoute.size z2 0 (takeC l most).rs.length), (OV.sub eRule.size z3 0 (takeC l most).us.length), a4, a5, c.default⟩ : SConf) 28, OwnS z1.v iE ((takeC l most).ps ++ [(777 : Int)]) 3, OwnS z2.v eRoute ((takeC l most).rs ++ [mkRo]) 52, OwnS z3.v eRule ((takeC l most).us ++ [mkRu]) 76, OwnS a4.v eMeterConf ((takeC l most).ms) 57, OwnS a5.v eMirrorConf ((takeC l most).xs) 59, Var b2 eConf eConf.zero 28, Var b1 eConf c 28]
  refine cut (X := OV) (fun x : OV => True) (fun x : OV => [(2, true, .pointer (some ⟨b1, 0, none⟩)), (4, true, .pointer (some ⟨b2, 0, none⟩)), (5, true, .pointer (some ⟨b3, 0, none⟩)), (1, true, I (most : Nat))]) (fun x : OV => [Var b3 eConf (⟨(OV.sub iE.size z1 0 (takeC l most).ps.length), (OV.sub eRoute.size z2 0 (takeC l most).rs.length), (OV.sub eRule.size z3 0 (takeC l most).us.length), (OV.sub eMeterConf.size x 0 (takeC l most).ms.length), a5, c.default⟩ : SConf) 28, OwnS z1.v iE ((takeC l most).ps ++ [(777 : Int)]) 3, OwnS z2.v eRoute ((takeC l most).rs ++ [mkRo]) 52, OwnS z3.v eRule ((takeC l most).us ++ [mkRu]) 76, OwnS x.v eMeterConf ((takeC l most).ms ++ [mkMe]) 57, OwnS a5.v eMirrorConf ((takeC l most).xs) 59, Var b2 eConf eConf.zero 28, Var b1 eConf c 28]) ?_ (fun x hx => ?_)
  · refine know (fun w I => (isSl_own (E := eMeterConf) (v := a4.v) (xs := (takeC l most).ms) (T := 57) zm w I).shq) (fun hq3 => ?_)
    refine draw [Var b2 eConf eConf.zero 28, Var b1 eConf c 28] zk ?_
    refine tk 0 rfl (fA 3 (.t rfl)) ?_
    refine tk 2 rfl (Ev.buildS (fs := _) (places := [(0, 1), (1, 3)]) z57 rfl Tryz.underlying57 zk (.cons (.c (v := (Go.Value.string (ByteArray.mk #[55, 55, 55]))) rfl) .nil) (Fills.cons SMeterConf.l_name rfl Fills.nil)) ?_
    refine tk 5 rfl (fA 3 (.t rfl)) ?_
    refine all [1, 3, 6] zk (by decide) (.cons rfl ?_ (.cons rfl ?_ (.cons rfl ?_ .nil)))
    · refine (opv (Ev.ldv ty25 (.t rfl) SConf.l_meters) ?_)
      refine hdn (all [3, 6] zk (by decide) (.cons rfl ?_ (.cons rfl ?_ .nil)))
      · refine (buildSlice (E := eMeterConf) Tryz.underlying25 ty57 z57 (.cons (.t rfl) .nil) rfl rfl (fun v48 => ?_))
        refine hdn (all [4, 6] zk (by decide) (.cons rfl ?_ (.cons rfl ?_ .nil)))
        · refine (app (E := eMeterConf) Tryz.underlying25 ty57 zb57 zs57 (.t rfl) (.t rfl) (fun v49 => ?_) (hby := ⟨by (show _ ≤ 9223372036854775807); simp only [List.length_cons, List.length_nil]; omega, by simp only [List.length_cons, List.length_nil]; omega⟩))
          refine hdn (al1 6 rfl ((opv (Ev.ldv ty25 (.t rfl) SConf.l_meters) ?_)))
          refine hdn (tk 7 rfl (Ev.lenQ Tryz.underlying25 (.t rfl) hq3) ?_)
          refine know (fun w I => (isSl_own (E := eMeterConf) (xs := (takeC l most).ms ++ [mkMe]) (T := 57) zm w I).shq) (fun hz3 => ?_)
          refine tk 8 rfl (Ev.to (v' := (OV.sub eMeterConf.size _ 0 (takeC l most).ms.length).v) (Ev.sliceHS Tryz.underlying25 ty57 (.t rfl) (.t rfl) hz3 (fun _ => zl)) (rfl)) ?_
          refine tk 9 rfl (fA 3 (.t rfl)) ?_
          refine al1 10 rfl ((stv ty25 SConf.l_meters (.t rfl) (.t rfl) ?_))
          refine hdn (ovr (pN (mtP (X := OV) (_) trivial)))
        · refine (opv (Ev.ldv ty25 (.t rfl) SConf.l_meters) ?_)
          refine hdn (tk 7 rfl (Ev.lenQ Tryz.underlying25 (.t rfl) hq3) ?_)
          refine al1 4 rfl ((app (E := eMeterConf) Tryz.underlying25 ty57 zb57 zs57 (.t rfl) (.t rfl) (fun v50 => ?_) (hby := ⟨by (show _ ≤ 9223372036854775807); simp only [List.length_cons, List.length_nil]; omega, by simp only [List.length_cons, List.length_nil]; omega⟩)))
          refine hdn (know (fun w I => (isSl_own (E := eMeterConf) (xs := (takeC l most).ms ++ [mkMe]) (T := 57) zm w I).shq) (fun hz3 => ?_))
          refine tk 8 rfl (Ev.to (v' := (OV.sub eMeterConf.size _ 0 (takeC l most).ms.length).v) (Ev.sliceHS Tryz.underlying25 ty57 (.t rfl) (.t rfl) hz3 (fun _ => zl)) (rfl)) ?_
          refine tk 9 rfl (fA 3 (.t rfl)) ?_
          refine al1 10 rfl ((stv ty25 SConf.l_meters (.t rfl) (.t rfl) ?_))
          refine hdn (ovr (pN (mtP (X := OV) (_) trivial)))
      · refine (opv (Ev.ldv ty25 (.t rfl) SConf.l_meters) ?_)
        refine hdn (tk 7 rfl (Ev.lenQ Tryz.underlying25 (.t rfl) hq3) ?_)
        refine al1 3 rfl ((buildSlice (E := eMeterConf) Tryz.underlying25 ty57 z57 (.cons (.t rfl) .nil) rfl rfl (fun v51 => ?_)))
        refine hdn (al1 4 rfl ((app (E := eMeterConf) Tryz.underlying25 ty57 zb57 zs57 (.t rfl) (.t rfl) (fun v52 => ?_) (hby := ⟨by (show _ ≤ 9223372036854775807); simp only [List.length_cons, List.length_nil]; omega, by simp only [List.length_cons, List.length_nil]; omega⟩))))
        refine hdn (know (fun w I => (isSl_own (E := eMeterConf) (xs := (takeC l most).ms ++ [mkMe]) (T := 57) zm w I).shq) (fun hz3 => ?_))
        refine tk 8 rfl (Ev.to (v' := (OV.sub eMeterConf.size _ 0 (takeC l most).ms.length).v) (Ev.sliceHS Tryz.underlying25 ty57 (.t rfl) (.t rfl) hz3 (fun _ => zl)) (rfl)) ?_
        refine tk 9 rfl (fA 3 (.t rfl)) ?_
        refine al1 10 rfl ((stv ty25 SConf.l_meters (.t rfl) (.t rfl) ?_))
        refine hdn (ovr (pN (mtP (X := OV) (_) trivial)))
    · refine (buildSlice (E := eMeterConf) Tryz.underlying25 ty57 z57 (.cons (.t rfl) .nil) rfl rfl (fun v53 => ?_))
      refine hdn (all [1, 6] zk (by decide) (.cons rfl ?_ (.cons rfl ?_ .nil)))
      · refine (opv (Ev.ldv ty25 (.t rfl) SConf.l_meters) ?_)
        refine hdn (all [4, 6] zk (by decide) (.cons rfl ?_ (.cons rfl ?_ .nil)))
        · refine (app (E := eMeterConf) Tryz.underlying25 ty57 zb57 zs57 (.t rfl) (.t rfl) (fun v54 => ?_) (hby := ⟨by (show _ ≤ 9223372036854775807); simp only [List.length_cons, List.length_nil]; omega, by simp only [List.length_cons, List.length_nil]; omega⟩))
          refine hdn (al1 6 rfl ((opv (Ev.ldv ty25 (.t rfl) SConf.l_meters) ?_)))
          refine hdn (tk 7 rfl (Ev.lenQ Tryz.underlying25 (.t rfl) hq3) ?_)
          refine know (fun w I => (isSl_own (E := eMeterConf) (xs := (takeC l most).ms ++ [mkMe]) (T := 57) zm w I).shq) (fun hz3 => ?_)
          refine tk 8 rfl (Ev.to (v' := (OV.sub eMeterConf.size _ 0 (takeC l most).ms.length).v) (Ev.sliceHS Tryz.underlying25 ty57 (.t rfl) (.t rfl) hz3 (fun _ => zl)) (rfl)) ?_
          refine tk 9 rfl (fA 3 (.t rfl)) ?_
          refine al1 10 rfl ((stv ty25 SConf.l_meters (.t rfl) (.t rfl) ?_))
          refine hdn (ovr (pN (mtP (X := OV) (_) trivial)))
        · refine (opv (Ev.ldv ty25 (.t rfl) SConf.l_meters) ?_)
          refine hdn (tk 7 rfl (Ev.lenQ Tryz.underlying25 (.t rfl) hq3) ?_)
          refine al1 4 rfl ((app (E := eMeterConf) Tryz.underlying25 ty57 zb57 zs57 (.t rfl) (.t rfl) (fun v55 => ?_) (hby := ⟨by (show _ ≤ 9223372036854775807); simp only [List.length_cons, List.length_nil]; omega, by simp only [List.length_cons, List.length_nil]; omega⟩)))
          refine hdn (know (fun w I => (isSl_own (E := eMeterConf) (xs := (takeC l most).ms ++ [mkMe]) (T := 57) zm w I).shq) (fun hz3 => ?_))
          refine tk 8 rfl (Ev.to (v' := (OV.sub eMeterConf.size _ 0 (takeC l most).ms.length).v) (Ev.sliceHS Tryz.underlying25 ty57 (.t rfl) (.t rfl) hz3 (fun _ => zl)) (rfl)) ?_
          refine tk 9 rfl (fA 3 (.t rfl)) ?_
          refine al1 10 rfl ((stv ty25 SConf.l_meters (.t rfl) (.t rfl) ?_))
          refine hdn (ovr (pN (mtP (X := OV) (_) trivial)))
      · refine (opv (Ev.ldv ty25 (.t rfl) SConf.l_meters) ?_)
        refine hdn (tk 7 rfl (Ev.lenQ Tryz.underlying25 (.t rfl) hq3) ?_)
        refine al1 1 rfl ((opv (Ev.ldv ty25 (.t rfl) SConf.l_meters) ?_))
        refine hdn (al1 4 rfl ((app (E := eMeterConf) Tryz.underlying25 ty57 zb57 zs57 (.t rfl) (.t rfl) (fun v56 => ?_) (hby := ⟨by (show _ ≤ 9223372036854775807); simp only [List.length_cons, List.length_nil]; omega, by simp only [List.length_cons, List.length_nil]; omega⟩))))
        refine hdn (know (fun w I => (isSl_own (E := eMeterConf) (xs := (takeC l most).ms ++ [mkMe]) (T := 57) zm w I).shq) (fun hz3 => ?_))
        refine tk 8 rfl (Ev.to (v' := (OV.sub eMeterConf.size _ 0 (takeC l most).ms.length).v) (Ev.sliceHS Tryz.underlying25 ty57 (.t rfl) (.t rfl) hz3 (fun _ => zl)) (rfl)) ?_
        refine tk 9 rfl (fA 3 (.t rfl)) ?_
        refine al1 10 rfl ((stv ty25 SConf.l_meters (.t rfl) (.t rfl) ?_))
        refine hdn (ovr (pN (mtP (X := OV) (_) trivial)))
    · refine (opv (Ev.ldv ty25 (.t rfl) SConf.l_meters) ?_)
      refine hdn (tk 7 rfl (Ev.lenQ Tryz.underlying25 (.t rfl) hq3) ?_)
      refine all [1, 3] zk (by decide) (.cons rfl ?_ (.cons rfl ?_ .nil))
      · refine (opv (Ev.ldv ty25 (.t rfl) SConf.l_meters) ?_)
        refine hdn (al1 3 rfl ((buildSlice (E := eMeterConf) Tryz.underlying25 ty57 z57 (.cons (.t rfl) .nil) rfl rfl (fun v57 => ?_))))
        refine hdn (al1 4 rfl ((app (E := eMeterConf) Tryz.underlying25 ty57 zb57 zs57 (.t rfl) (.t rfl) (fun v58 => ?_) (hby := ⟨by (show _ ≤ 9223372036854775807); simp only [List.length_cons, List.length_nil]; omega, by simp only [List.length_cons, List.length_nil]; omega⟩))))
        refine hdn (know (fun w I => (isSl_own (E := eMeterConf) (xs := (takeC l most).ms ++ [mkMe]) (T := 57) zm w I).shq) (fun hz3 => ?_))
        refine tk 8 rfl (Ev.to (v' := (OV.sub eMeterConf.size _ 0 (takeC l most).ms.length).v) (Ev.sliceHS Tryz.underlying25 ty57 (.t rfl) (.t rfl) hz3 (fun _ => zl)) (rfl)) ?_
        refine tk 9 rfl (fA 3 (.t rfl)) ?_
        refine al1 10 rfl ((stv ty25 SConf.l_meters (.t rfl) (.t rfl) ?_))
        refine hdn (ovr (pN (mtP (X := OV) (_) trivial)))
      · refine (buildSlice (E := eMeterConf) Tryz.underlying25 ty57 z57 (.cons (.t rfl) .nil) rfl rfl (fun v59 => ?_))
        refine hdn (al1 1 rfl ((opv (Ev.ldv ty25 (.t rfl) SConf.l_meters) ?_)))
        refine hdn (al1 4 rfl ((app (E := eMeterConf) Tryz.underlying25 ty57 zb57 zs57 (.t rfl) (.t rfl) (fun v60 => ?_) (hby := ⟨by (show _ ≤ 9223372036854775807); simp only [List.length_cons, List.length_nil]; omega, by simp only [List.length_cons, List.length_nil]; omega⟩))))
        refine hdn (know (fun w I => (isSl_own (E := eMeterConf) (xs := (takeC l most).ms ++ [mkMe]) (T := 57) zm w I).shq) (fun hz3 => ?_))
        refine tk 8 rfl (Ev.to (v' := (OV.sub eMeterConf.size _ 0 (takeC l most).ms.length).v) (Ev.sliceHS Tryz.underlying25 ty57 (.t rfl) (.t rfl) hz3 (fun _ => zl)) (rfl)) ?_
        refine tk 9 rfl (fA 3 (.t rfl)) ?_
        refine al1 10 rfl ((stv ty25 SConf.l_meters (.t rfl) (.t rfl) ?_))
        refine hdn (ovr (pN (mtP (X := OV) (_) trivial)))
  obtain ⟨z4, rfl⟩ : ∃ y, y = x := ⟨x, rfl⟩
  show Sat _ _ [(2, true, .pointer (some ⟨b1, 0, none⟩)), (4, true, .pointer (some ⟨b2, 0, none⟩)), (5, true, .pointer (some ⟨b3, 0, none⟩)), (1, true, I (most : Nat))] [Var b3 eConf (⟨(OV.sub iE.size z1 0 (takeC l most).ps.length), (OV.sub eRoute.size z2 0 (takeC l most).rs.length), (OV.sub eRule.size z3 0 (takeC l most).us.length), (OV.sub eMeterConf.size z4 0 (takeC l most).ms.length), a5, c.default⟩ : SConf) 28, OwnS z1.v iE ((takeC l most).ps ++ [(777 : Int)]) 3, OwnS z2.v eRoute ((takeC l most).rs ++ [mkRo]) 52, OwnS z3.v eRule ((takeC l most).us ++ [mkRu]) 76, OwnS z4.v eMeterConf ((takeC l most).ms ++ [mkMe]) 57, OwnS a5.v eMirrorConf ((takeC l most).xs) 59, Var b2 eConf eConf.zero 28, Var b1 eConf c 28]
  refine cut (X := OV) (fun x : OV => True) (fun x : OV => [(2, true, .pointer (some ⟨b1, 0, none⟩)), (4, true, .pointer (some ⟨b2, 0, none⟩)), (5, true, .pointer (some ⟨b3, 0, none⟩)), (1, true, I (most : Nat))]) (fun x : OV => [Var b3 eConf (⟨(OV.sub iE.size z1 0 (takeC l most).ps.length), (OV.sub eRoute.size z2 0 (takeC l most).rs.length), (OV.sub eRule.size z3 0 (takeC l most).us.length), (OV.sub eMeterConf.size z4 0 (takeC l most).ms.length), (OV.sub eMirrorConf.size x 0 (takeC l most).xs.length), c.default⟩ : SConf) 28, OwnS z1.v iE ((takeC l most).ps ++ [(777 : Int)]) 3, OwnS z2.v eRoute ((takeC l most).rs ++ [mkRo]) 52, OwnS z3.v eRule ((takeC l most).us ++ [mkRu]) 76, OwnS z4.v eMeterConf ((takeC l most).ms ++ [mkMe]) 57, OwnS x.v eMirrorConf ((takeC l most).xs ++ [mkMi]) 59, Var b2 eConf eConf.zero 28, Var b1 eConf c 28]) ?_ (fun x hx => ?_)
  · refine know (fun w I => (isSl_own (E := eMirrorConf) (v := a5.v) (xs := (takeC l most).xs) (T := 59) zm w I).shq) (fun hq4 => ?_)
    refine draw [Var b2 eConf eConf.zero 28, Var b1 eConf c 28] zk ?_
    refine tk 0 rfl (fA 4 (.t rfl)) ?_
    refine tk 2 rfl (Ev.buildS (fs := _) (places := [(0, 1), (1, 1), (2, 1)]) z59 rfl Tryz.underlying59 zk (.cons (.c (v := I 777) rfl) .nil) (Fills.cons SMirrorConf.l_out rfl Fills.nil)) ?_
    refine tk 5 rfl (fA 4 (.t rfl)) ?_
    refine all [1, 3, 6] zk (by decide) (.cons rfl ?_ (.cons rfl ?_ (.cons rfl ?_ .nil)))
    · refine (opv (Ev.ldv ty26 (.t rfl) SConf.l_mirrors) ?_)
      refine hdn (all [3, 6] zk (by decide) (.cons rfl ?_ (.cons rfl ?_ .nil)))
      · refine (buildSlice (E := eMirrorConf) Tryz.underlying26 ty59 z59 (.cons (.t rfl) .nil) rfl rfl (fun v61 => ?_))
        refine hdn (all [4, 6] zk (by decide) (.cons rfl ?_ (.cons rfl ?_ .nil)))
        · refine (app (E := eMirrorConf) Tryz.underlying26 ty59 zb59 zs59 (.t rfl) (.t rfl) (fun v62 => ?_) (hby := ⟨by (show _ ≤ 9223372036854775807); simp only [List.length_cons, List.length_nil]; omega, by simp only [List.length_cons, List.length_nil]; omega⟩))
          refine hdn (al1 6 rfl ((opv (Ev.ldv ty26 (.t rfl) SConf.l_mirrors) ?_)))
          refine hdn (tk 7 rfl (Ev.lenQ Tryz.underlying26 (.t rfl) hq4) ?_)
          refine know (fun w I => (isSl_own (E := eMirrorConf) (xs := (takeC l most).xs ++ [mkMi]) (T := 59) zm w I).shq) (fun hz4 => ?_)
          refine tk 8 rfl (Ev.to (v' := (OV.sub eMirrorConf.size _ 0 (takeC l most).xs.length).v) (Ev.sliceHS Tryz.underlying26 ty59 (.t rfl) (.t rfl) hz4 (fun _ => zl)) (rfl)) ?_
          refine tk 9 rfl (fA 4 (.t rfl)) ?_
          refine al1 10 rfl ((stv ty26 SConf.l_mirrors (.t rfl) (.t rfl) ?_))
          refine hdn (ovr (pN (mtP (X := OV) (_) trivial)))
        · refine (opv (Ev.ldv ty26 (.t rfl) SConf.l_mirrors) ?_)
          refine hdn (tk 7 rfl (Ev.lenQ Tryz.underlying26 (.t rfl) hq4) ?_)
          refine al1 4 rfl ((app (E := eMirrorConf) Tryz.underlying26 ty59 zb59 zs59 (.t rfl) (.t rfl) (fun v63 => ?_) (hby := ⟨by (show _ ≤ 9223372036854775807); simp only [List.length_cons, List.length_nil]; omega, by simp only [List.length_cons, List.length_nil]; omega⟩)))
          refine hdn (know (fun w I => (isSl_own (E := eMirrorConf) (xs := (takeC l most).xs ++ [mkMi]) (T := 59) zm w I).shq) (fun hz4 => ?_))
          refine tk 8 rfl (Ev.to (v' := (OV.sub eMirrorConf.size _ 0 (takeC l most).xs.length).v) (Ev.sliceHS Tryz.underlying26 ty59 (.t rfl) (.t rfl) hz4 (fun _ => zl)) (rfl)) ?_
          refine tk 9 rfl (fA 4 (.t rfl)) ?_
          refine al1 10 rfl ((stv ty26 SConf.l_mirrors (.t rfl) (.t rfl) ?_))
          refine hdn (ovr (pN (mtP (X := OV) (_) trivial)))
      · refine (opv (Ev.ldv ty26 (.t rfl) SConf.l_mirrors) ?_)
        refine hdn (tk 7 rfl (Ev.lenQ Tryz.underlying26 (.t rfl) hq4) ?_)
        refine al1 3 rfl ((buildSlice (E := eMirrorConf) Tryz.underlying26 ty59 z59 (.cons (.t rfl) .nil) rfl rfl (fun v64 => ?_)))
        refine hdn (al1 4 rfl ((app (E := eMirrorConf) Tryz.underlying26 ty59 zb59 zs59 (.t rfl) (.t rfl) (fun v65 => ?_) (hby := ⟨by (show _ ≤ 9223372036854775807); simp only [List.length_cons, List.length_nil]; omega, by simp only [List.length_cons, List.length_nil]; omega⟩))))
        refine hdn (know (fun w I => (isSl_own (E := eMirrorConf) (xs := (takeC l most).xs ++ [mkMi]) (T := 59) zm w I).shq) (fun hz4 => ?_))
        refine tk 8 rfl (Ev.to (v' := (OV.sub eMirrorConf.size _ 0 (takeC l most).xs.length).v) (Ev.sliceHS Tryz.underlying26 ty59 (.t rfl) (.t rfl) hz4 (fun _ => zl)) (rfl)) ?_
        refine tk 9 rfl (fA 4 (.t rfl)) ?_
        refine al1 10 rfl ((stv ty26 SConf.l_mirrors (.t rfl) (.t rfl) ?_))
        refine hdn (ovr (pN (mtP (X := OV) (_) trivial)))
    · refine (buildSlice (E := eMirrorConf) Tryz.underlying26 ty59 z59 (.cons (.t rfl) .nil) rfl rfl (fun v66 => ?_))
      refine hdn (all [1, 6] zk (by decide) (.cons rfl ?_ (.cons rfl ?_ .nil)))
      · refine (opv (Ev.ldv ty26 (.t rfl) SConf.l_mirrors) ?_)
        refine hdn (all [4, 6] zk (by decide) (.cons rfl ?_ (.cons rfl ?_ .nil)))
        · refine (app (E := eMirrorConf) Tryz.underlying26 ty59 zb59 zs59 (.t rfl) (.t rfl) (fun v67 => ?_) (hby := ⟨by (show _ ≤ 9223372036854775807); simp only [List.length_cons, List.length_nil]; omega, by simp only [List.length_cons, List.length_nil]; omega⟩))
          refine hdn (al1 6 rfl ((opv (Ev.ldv ty26 (.t rfl) SConf.l_mirrors) ?_)))
          refine hdn (tk 7 rfl (Ev.lenQ Tryz.underlying26 (.t rfl) hq4) ?_)
          refine know (fun w I => (isSl_own (E := eMirrorConf) (xs := (takeC l most).xs ++ [mkMi]) (T := 59) zm w I).shq) (fun hz4 => ?_)
          refine tk 8 rfl (Ev.to (v' := (OV.sub eMirrorConf.size _ 0 (takeC l most).xs.length).v) (Ev.sliceHS Tryz.underlying26 ty59 (.t rfl) (.t rfl) hz4 (fun _ => zl)) (rfl)) ?_
          refine tk 9 rfl (fA 4 (.t rfl)) ?_
          refine al1 10 rfl ((stv ty26 SConf.l_mirrors (.t rfl) (.t rfl) ?_))
          refine hdn (ovr (pN (mtP (X := OV) (_) trivial)))
        · refine (opv (Ev.ldv ty26 (.t rfl) SConf.l_mirrors) ?_)
          refine hdn (tk 7 rfl (Ev.lenQ Tryz.underlying26 (.t rfl) hq4) ?_)
          refine al1 4 rfl ((app (E := eMirrorConf) Tryz.underlying26 ty59 zb59 zs59 (.t rfl) (.t rfl) (fun v68 => ?_) (hby := ⟨by (show _ ≤ 9223372036854775807); simp only [List.length_cons, List.length_nil]; omega, by simp only [List.length_cons, List.length_nil]; omega⟩)))
          refine hdn (know (fun w I => (isSl_own (E := eMirrorConf) (xs := (takeC l most).xs ++ [mkMi]) (T := 59) zm w I).shq) (fun hz4 => ?_))
          refine tk 8 rfl (Ev.to (v' := (OV.sub eMirrorConf.size _ 0 (takeC l most).xs.length).v) (Ev.sliceHS Tryz.underlying26 ty59 (.t rfl) (.t rfl) hz4 (fun _ => zl)) (rfl)) ?_
          refine tk 9 rfl (fA 4 (.t rfl)) ?_
          refine al1 10 rfl ((stv ty26 SConf.l_mirrors (.t rfl) (.t rfl) ?_))
          refine hdn (ovr (pN (mtP (X := OV) (_) trivial)))
      · refine (opv (Ev.ldv ty26 (.t rfl) SConf.l_mirrors) ?_)
        refine hdn (tk 7 rfl (Ev.lenQ Tryz.underlying26 (.t rfl) hq4) ?_)
        refine al1 1 rfl ((opv (Ev.ldv ty26 (.t rfl) SConf.l_mirrors) ?_))
        refine hdn (al1 4 rfl ((app (E := eMirrorConf) Tryz.underlying26 ty59 zb59 zs59 (.t rfl) (.t rfl) (fun v69 => ?_) (hby := ⟨by (show _ ≤ 9223372036854775807); simp only [List.length_cons, List.length_nil]; omega, by simp only [List.length_cons, List.length_nil]; omega⟩))))
        refine hdn (know (fun w I => (isSl_own (E := eMirrorConf) (xs := (takeC l most).xs ++ [mkMi]) (T := 59) zm w I).shq) (fun hz4 => ?_))
        refine tk 8 rfl (Ev.to (v' := (OV.sub eMirrorConf.size _ 0 (takeC l most).xs.length).v) (Ev.sliceHS Tryz.underlying26 ty59 (.t rfl) (.t rfl) hz4 (fun _ => zl)) (rfl)) ?_
        refine tk 9 rfl (fA 4 (.t rfl)) ?_
        refine al1 10 rfl ((stv ty26 SConf.l_mirrors (.t rfl) (.t rfl) ?_))
        refine hdn (ovr (pN (mtP (X := OV) (_) trivial)))
    · refine (opv (Ev.ldv ty26 (.t rfl) SConf.l_mirrors) ?_)
      refine hdn (tk 7 rfl (Ev.lenQ Tryz.underlying26 (.t rfl) hq4) ?_)
      refine all [1, 3] zk (by decide) (.cons rfl ?_ (.cons rfl ?_ .nil))
      · refine (opv (Ev.ldv ty26 (.t rfl) SConf.l_mirrors) ?_)
        refine hdn (al1 3 rfl ((buildSlice (E := eMirrorConf) Tryz.underlying26 ty59 z59 (.cons (.t rfl) .nil) rfl rfl (fun v70 => ?_))))
        refine hdn (al1 4 rfl ((app (E := eMirrorConf) Tryz.underlying26 ty59 zb59 zs59 (.t rfl) (.t rfl) (fun v71 => ?_) (hby := ⟨by (show _ ≤ 9223372036854775807); simp only [List.length_cons, List.length_nil]; omega, by simp only [List.length_cons, List.length_nil]; omega⟩))))
        refine hdn (know (fun w I => (isSl_own (E := eMirrorConf) (xs := (takeC l most).xs ++ [mkMi]) (T := 59) zm w I).shq) (fun hz4 => ?_))
        refine tk 8 rfl (Ev.to (v' := (OV.sub eMirrorConf.size _ 0 (takeC l most).xs.length).v) (Ev.sliceHS Tryz.underlying26 ty59 (.t rfl) (.t rfl) hz4 (fun _ => zl)) (rfl)) ?_
        refine tk 9 rfl (fA 4 (.t rfl)) ?_
        refine al1 10 rfl ((stv ty26 SConf.l_mirrors (.t rfl) (.t rfl) ?_))
        refine hdn (ovr (pN (mtP (X := OV) (_) trivial)))
      · refine (buildSlice (E := eMirrorConf) Tryz.underlying26 ty59 z59 (.cons (.t rfl) .nil) rfl rfl (fun v72 => ?_))
        refine hdn (al1 1 rfl ((opv (Ev.ldv ty26 (.t rfl) SConf.l_mirrors) ?_)))
        refine hdn (al1 4 rfl ((app (E := eMirrorConf) Tryz.underlying26 ty59 zb59 zs59 (.t rfl) (.t rfl) (fun v73 => ?_) (hby := ⟨by (show _ ≤ 9223372036854775807); simp only [List.length_cons, List.length_nil]; omega, by simp only [List.length_cons, List.length_nil]; omega⟩))))
        refine hdn (know (fun w I => (isSl_own (E := eMirrorConf) (xs := (takeC l most).xs ++ [mkMi]) (T := 59) zm w I).shq) (fun hz4 => ?_))
        refine tk 8 rfl (Ev.to (v' := (OV.sub eMirrorConf.size _ 0 (takeC l most).xs.length).v) (Ev.sliceHS Tryz.underlying26 ty59 (.t rfl) (.t rfl) hz4 (fun _ => zl)) (rfl)) ?_
        refine tk 9 rfl (fA 4 (.t rfl)) ?_
        refine al1 10 rfl ((stv ty26 SConf.l_mirrors (.t rfl) (.t rfl) ?_))
        refine hdn (ovr (pN (mtP (X := OV) (_) trivial)))
  obtain ⟨z5, rfl⟩ : ∃ y, y = x := ⟨x, rfl⟩
  show Sat _ _ [(2, true, .pointer (some ⟨b1, 0, none⟩)), (4, true, .pointer (some ⟨b2, 0, none⟩)), (5, true, .pointer (some ⟨b3, 0, none⟩)), (1, true, I (most : Nat))] [Var b3 eConf (⟨(OV.sub iE.size z1 0 (takeC l most).ps.length), (OV.sub eRoute.size z2 0 (takeC l most).rs.length), (OV.sub eRule.size z3 0 (takeC l most).us.length), (OV.sub eMeterConf.size z4 0 (takeC l most).ms.length), (OV.sub eMirrorConf.size z5 0 (takeC l most).xs.length), c.default⟩ : SConf) 28, OwnS z1.v iE ((takeC l most).ps ++ [(777 : Int)]) 3, OwnS z2.v eRoute ((takeC l most).rs ++ [mkRo]) 52, OwnS z3.v eRule ((takeC l most).us ++ [mkRu]) 76, OwnS z4.v eMeterConf ((takeC l most).ms ++ [mkMe]) 57, OwnS z5.v eMirrorConf ((takeC l most).xs ++ [mkMi]) 59, Var b2 eConf eConf.zero 28, Var b1 eConf c 28]
  refine sg (co (Ev.ldv ty28 (.t rfl) (Lens.id _)) ?_)
  refine cons (stv ty28 (Lens.id _) (.t rfl) (.t rfl) ?_)
  refine nP (ret (done rfl (.cell rfl (fun w I => run_loadVar_pts ty28 (ptsVar zm (Lens.id _) w I)) .nil) (fun w I => ?_)))
  exact retNP (⟨z1, z2, z3, z4, z5⟩ : CB) trivial rfl (by repeat first | exact SubP.nil | refine SubP.cons zr ?_) w I
end Go.Proofs.YtnoobdijbpmjkaaGreat
