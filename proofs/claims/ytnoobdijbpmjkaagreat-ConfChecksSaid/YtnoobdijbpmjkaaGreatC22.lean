/- conf -/
import Derived.Test.YtnoobdijbpmjkaaGreatC21
set_option linter.unusedVariables false
set_option linter.unusedSimpArgs false
namespace Go.Proofs.YtnoobdijbpmjkaaGreat
open Go Go.Gx

/-- A configuration of one's own that stands in a variable. -/
abbrev CR (b : Nat) (x : CB) (l : CL) (d : Int) : Res := Seps (Var b eConf (x.c d) 28) [OwnS x.o1.v iE l.ps 3, OwnS x.o2.v eRoute l.rs 52, OwnS x.o3.v eRule l.us 76, OwnS x.o4.v eMeterConf l.ms 57, OwnS x.o5.v eMirrorConf l.xs 59]
def iP (l : CL) (c : SChange) : Int := idxF (fun y => decide (c.port = y)) l.ps
def iR (l : CL) (c : SChange) : Int := idxF (fun r => SPrefix.eqb r.to_ c.route.to_) l.rs
def iM (l : CL) (c : SChange) : Int := idxF (fun r => decide (r.name = c.meter.name)) l.ms
def iX (l : CL) (c : SChange) : Int := idxF (fun r => decide (r.name = c.mirror.name)) l.xs
def cutI {α : Type} (l : List α) (i : Int) : List α := if i < 0 then l else cutL l i (i + 1)
def addBad (l : CL) (c : SChange) : Bool := decide (0 ≤ iP l c) || decide (c.port < 0) || decide (255 < c.port)
/-- What becomes of a configuration's lists by a change that fits. -/
def changeL (l : CL) (c : SChange) (rl : List SRule) : CL :=
  if c.kind = 1 then (if addBad l c = true then l else { l with ps := insL l.ps (lowB l.ps c.port) c.port })
  else if c.kind = 2 then { l with ps := cutI l.ps (iP l c) }
  else if c.kind = 3 then { l with rs := setL l.rs (iR l c) c.route }
  else if c.kind = 4 then { l with rs := cutI l.rs (iR l c) }
  else if c.kind = 5 then { l with ms := setL l.ms (iM l c) c.meter }
  else if c.kind = 6 then { l with ms := cutI l.ms (iM l c) }
  else if c.kind = 7 then { l with xs := setL l.xs (iX l c) c.mirror }
  else if c.kind = 8 then { l with xs := cutI l.xs (iX l c) }
  else if c.kind = 9 then { l with us := rl }
  else l
def changeD (d : Int) (c : SChange) : Int := if c.kind = 10 then c.default else d
/-- Does it fit? -/
def changeB (l : CL) (c : SChange) : Bool :=
  if c.kind = 1 then !addBad l c
  else if c.kind = 2 then decide (¬ iP l c < 0)
  else if c.kind = 3 then true
  else if c.kind = 4 then decide (¬ iR l c < 0)
  else if c.kind = 5 then true
  else if c.kind = 6 then decide (¬ iM l c < 0)
  else if c.kind = 7 then true
  else if c.kind = 8 then decide (¬ iX l c < 0)
  else if c.kind = 9 then true
  else decide (c.kind = 10)
theorem idxF_lt {α : Type} (p : α → Bool) (l : List α) : -1 ≤ idxF p l ∧ (idxF p l < 0 ∨ idxF p l < l.length) := by
  unfold idxF
  cases h : l.findIdx? p with
  | none => simp
  | some i =>
    have := (List.findIdx?_eq_some_iff_getElem.1 h).1
    simp only
    omega
theorem lowB_le (l : List Int) (x : Int) : 0 ≤ lowB l x ∧ lowB l x ≤ l.length := by
  unfold lowB
  have := List.countP_le_length (p := fun y => decide (y < x)) (l := l)
  omega

theorem chg1_ok (c : SChange) (p : Nat) (x : SRoute) (w : World) (hc : PtsTo eChange w p 0 c) : Calls Tryz.prog 130 #[eRoute.val x, .pointer (some ⟨p, 0, none⟩)] w (RetV w (.bool (SPrefix.eqb x.to_ c.route.to_))) := by
  refine enter0 10 Tryz.func130 rfl rfl (Nat.le_of_ble_eq_true rfl) ?_
  refine seq (region (cons (box (E := eRoute) (.t rfl) (fun b1 => ?_))))
  refine cons (opv (Ev.assign (.c (v := .bool false) rfl)) ?_)
  refine nil (pN (seq (region (cons (opv (Ev.fieldAddr (o := 0) (.t rfl) (by kernel_rfl)) ?_)))))
  refine cons (opv (Ev.load (xv := x.to_) ty50 (.t rfl) (ptsVar (by repeat first | exact mH | apply mT | apply mA) SRoute.l_to_)) ?_)
  refine cons (opv (Ev.fieldAddr (o := 2) (.t rfl) (by kernel_rfl)) ?_)
  refine cons (opv (Ev.fieldAddr (o := 0) (.t rfl) (by kernel_rfl)) ?_)
  refine cons (opv (Ev.load ty50 (.t rfl) (ptsL (fun w I => hc.keep I.keeps) (Lens.comp SChange.l_route SRoute.l_to_))) ?_)
  refine cons (opv (Ev.eqlS rfl eqok50 rfl (by kernel_rfl) (.t rfl) (.t rfl)) ?_)
  refine cons (opv (Ev.assign (.t rfl)) (nil (pN (ret (done rfl (.tmp rfl .nil) (retE ?_))))))
  rfl

theorem chg2_ok (c : SChange) (p : Nat) (x : SMeterConf) (w : World) (hc : PtsTo eChange w p 0 c) : Calls Tryz.prog 132 #[eMeterConf.val x, .pointer (some ⟨p, 0, none⟩)] w (RetV w (.bool (decide (x.name = c.meter.name)))) := by
  refine enter0 10 Tryz.func132 rfl rfl (Nat.le_of_ble_eq_true rfl) ?_
  refine seq (region (cons (box (E := eMeterConf) (.t rfl) (fun b1 => ?_))))
  refine cons (opv (Ev.assign (.c (v := .bool false) rfl)) ?_)
  refine nil (pN (seq (region (cons (opv (Ev.fieldAddr (o := 0) (.t rfl) (by kernel_rfl)) ?_)))))
  refine cons (opv (Ev.load (xv := x.name) ty9 (.t rfl) (ptsVar (by repeat first | exact mH | apply mT | apply mA) SMeterConf.l_name)) ?_)
  refine cons (opv (Ev.fieldAddr (o := 21) (.t rfl) (by kernel_rfl)) ?_)
  refine cons (opv (Ev.fieldAddr (o := 0) (.t rfl) (by kernel_rfl)) ?_)
  refine cons (opv (Ev.load ty9 (.t rfl) (ptsL (fun w I => hc.keep I.keeps) (Lens.comp SChange.l_meter SMeterConf.l_name))) ?_)
  refine cons (opv (Ev.eql_s (.t rfl) (.t rfl)) ?_)
  refine cons (opv (Ev.assign (.t rfl)) (nil (pN (ret (done rfl (.tmp rfl .nil) (retE ?_))))))
  rfl

theorem chg3_ok (c : SChange) (p : Nat) (x : SMirrorConf) (w : World) (hc : PtsTo eChange w p 0 c) : Calls Tryz.prog 134 #[eMirrorConf.val x, .pointer (some ⟨p, 0, none⟩)] w (RetV w (.bool (decide (x.name = c.mirror.name)))) := by
  refine enter0 10 Tryz.func134 rfl rfl (Nat.le_of_ble_eq_true rfl) ?_
  refine seq (region (cons (box (E := eMirrorConf) (.t rfl) (fun b1 => ?_))))
  refine cons (opv (Ev.assign (.c (v := .bool false) rfl)) ?_)
  refine nil (pN (seq (region (cons (opv (Ev.fieldAddr (o := 0) (.t rfl) (by kernel_rfl)) ?_)))))
  refine cons (opv (Ev.load (xv := x.name) ty9 (.t rfl) (ptsVar (by repeat first | exact mH | apply mT | apply mA) SMirrorConf.l_name)) ?_)
  refine cons (opv (Ev.fieldAddr (o := 25) (.t rfl) (by kernel_rfl)) ?_)
  refine cons (opv (Ev.fieldAddr (o := 0) (.t rfl) (by kernel_rfl)) ?_)
  refine cons (opv (Ev.load ty9 (.t rfl) (ptsL (fun w I => hc.keep I.keeps) (Lens.comp SChange.l_mirror SMirrorConf.l_name))) ?_)
  refine cons (opv (Ev.eql_s (.t rfl) (.t rfl)) ?_)
  refine cons (opv (Ev.assign (.t rfl)) (nil (pN (ret (done rfl (.tmp rfl .nil) (retE ?_))))))
  rfl

theorem en130 : Gx.Enters Tryz.prog 130 := Gx.Enters.mk' (by kernel_rfl)

theorem en132 : Gx.Enters Tryz.prog 132 := Gx.Enters.mk' (by kernel_rfl)

theorem en134 : Gx.Enters Tryz.prog 134 := Gx.Enters.mk' (by kernel_rfl)

theorem en128 : Gx.Enters Tryz.prog 128 := Gx.Enters.mk' (by kernel_rfl)

theorem en129 : Gx.Enters Tryz.prog 129 := Gx.Enters.mk' (by kernel_rfl)

theorem en131 : Gx.Enters Tryz.prog 131 := Gx.Enters.mk' (by kernel_rfl)

theorem en133 : Gx.Enters Tryz.prog 133 := Gx.Enters.mk' (by kernel_rfl)

theorem en135 : Gx.Enters Tryz.prog 135 := Gx.Enters.mk' (by kernel_rfl)

theorem en136 : Gx.Enters Tryz.prog 136 := Gx.Enters.mk' (by kernel_rfl)

theorem en137 : Gx.Enters Tryz.prog 137 := Gx.Enters.mk' (by kernel_rfl)

theorem en138 : Gx.Enters Tryz.prog 138 := Gx.Enters.mk' (by kernel_rfl)

theorem en139 : Gx.Enters Tryz.prog 139 := Gx.Enters.mk' (by kernel_rfl)

theorem en140 : Gx.Enters Tryz.prog 140 := Gx.Enters.mk' (by kernel_rfl)

theorem en141 : Gx.Enters Tryz.prog 141 := Gx.Enters.mk' (by kernel_rfl)

theorem en142 : Gx.Enters Tryz.prog 142 := Gx.Enters.mk' (by kernel_rfl)

theorem en143 : Gx.Enters Tryz.prog 143 := Gx.Enters.mk' (by kernel_rfl)

theorem change_ok (b : Nat) (x : CB) (l : CL) (d : Int) (c : SChange) (rl : List SRule) (w : World) (h : At (CR b x l d) w) (hr : ∀ w1, Keeps (CR b x l d).foot w w1 → IsSl eRule w1 c.rules.v rl) (hs : l.ps.Pairwise (· < ·)) (hb : l.ps.length < 1048576 ∧ l.rs.length < 1048576 ∧ l.ms.length < 1048576 ∧ l.xs.length < 1048576) (hrl : rl.length * 152 ≤ 140737488355328) : Calls Tryz.prog 92 #[.pointer (some ⟨b, 0, none⟩), eChange.val c] w (RetR w (CR b x l d) (fun _ : CB => True) (fun _ => .bool (changeB l c)) (fun x2 => CR b x2 (changeL l c rl) (changeD d c))) := by
  refine enter (CR b x l d).foot 185 [CR b x l d] Tryz.func92 rfl rfl (Nat.le_of_ble_eq_true rfl) (start_at h) ?_
  refine sepsOut Rem.head ?_
  refine seq (region (cons (box (E := eChange) (.t rfl) (fun b1 => ?_))))
  refine cons (opv (Ev.assign (.c (v := .bool false) rfl)) ?_)
  refine nil (pN (seq (region (cons (opv (Ev.assign (.c (v := .bool true) rfl)) ?_)))))
  refine nil (pN (seq (draw' (by kernel_rfl) ?_)))
  refine tk 0 rfl (Ev.move (.t rfl)) ?_
  refine tk 1 rfl (Ev.nilCheck (.t rfl)) ?_
  refine tk 2 rfl (Ev.fieldAddr (o := 0) (.t rfl) (by kernel_rfl)) ?_
  refine tk 3 rfl (Ev.to (v' := x.o1.v) (Ev.ldv ty22 (.t rfl) SConf.l_ports) (rfl)) ?_
  refine tk 4 rfl (Ev.fieldAddr (o := 1) (.t rfl) (by kernel_rfl)) ?_
  refine tk 5 rfl (Ev.ldv ty3 (.t rfl) SChange.l_port) ?_
  refine al1 6 rfl ((callv en128 (.cons (.t rfl) (.cons (.t rfl) .nil)) (fun w I => index_ok _ l.ps _ w (isSl_own (by repeat first | exact mH | apply mT | apply mA) w I)) ?_))
  refine hdn (tk 7 rfl (Ev.assign (.t rfl)) ?_)
  refine ovr (pN (seq (region (cons (opv (Ev.move (.t rfl)) (cons (opv (Ev.nilCheck (.t rfl)) ?_)))))))
  refine cons (opv (Ev.fieldAddr (o := 1) (.t rfl) (by kernel_rfl)) ?_)
  refine cons (opv (Ev.to (v' := x.o2.v) (Ev.ldv ty23 (.t rfl) SConf.l_routes) (rfl)) ?_)
  refine cons (opv (Ev.makeFunc (f := 130) (.cons (.t rfl) .nil)) ?_)
  refine cons (callv en129 (.cons (.t rfl) (.cons (.t rfl) .nil)) (fun w I => indexf_52 130 [.pointer (some ⟨b1, 0, none⟩)] (fun r => SPrefix.eqb r.to_ c.route.to_) _ l.rs w en130 (isSl_own (by repeat first | exact mH | apply mT | apply mA) w I) (fun z w1 _ k1 => chg1_ok c b1 z w1 (ptsVar (by repeat first | exact mH | apply mT | apply mA) (Lens.id _) w1 (I.grow k1)))) ?_)
  refine cons (opv (Ev.assign (.t rfl)) (nil (pN (seq (region (cons (opv (Ev.move (.t rfl)) (cons (opv (Ev.nilCheck (.t rfl)) ?_)))))))))
  refine cons (opv (Ev.fieldAddr (o := 3) (.t rfl) (by kernel_rfl)) ?_)
  refine cons (opv (Ev.to (v' := x.o4.v) (Ev.ldv ty25 (.t rfl) SConf.l_meters) (rfl)) ?_)
  refine cons (opv (Ev.makeFunc (f := 132) (.cons (.t rfl) .nil)) ?_)
  refine cons (callv en131 (.cons (.t rfl) (.cons (.t rfl) .nil)) (fun w I => indexf_57 132 [.pointer (some ⟨b1, 0, none⟩)] (fun r => decide (r.name = c.meter.name)) _ l.ms w en132 (isSl_own (by repeat first | exact mH | apply mT | apply mA) w I) (fun z w1 _ k1 => chg2_ok c b1 z w1 (ptsVar (by repeat first | exact mH | apply mT | apply mA) (Lens.id _) w1 (I.grow k1)))) ?_)
  refine cons (opv (Ev.assign (.t rfl)) (nil (pN (seq (region (cons (opv (Ev.move (.t rfl)) (cons (opv (Ev.nilCheck (.t rfl)) ?_)))))))))
  refine cons (opv (Ev.fieldAddr (o := 4) (.t rfl) (by kernel_rfl)) ?_)
  refine cons (opv (Ev.to (v' := x.o5.v) (Ev.ldv ty26 (.t rfl) SConf.l_mirrors) (rfl)) ?_)
  refine cons (opv (Ev.makeFunc (f := 134) (.cons (.t rfl) .nil)) ?_)
  refine cons (callv en133 (.cons (.t rfl) (.cons (.t rfl) .nil)) (fun w I => indexf_59 134 [.pointer (some ⟨b1, 0, none⟩)] (fun r => decide (r.name = c.mirror.name)) _ l.xs w en134 (isSl_own (by repeat first | exact mH | apply mT | apply mA) w I) (fun z w1 _ k1 => chg3_ok c b1 z w1 (ptsVar (by repeat first | exact mH | apply mT | apply mA) (Lens.id _) w1 (I.grow k1)))) ?_)
  refine cons (opv (Ev.assign (.t rfl)) (nil (pN (seq (seq (region (cons (opv (Ev.fieldAddr (o := 0) (.t rfl) (by kernel_rfl)) ?_))))))))
  refine cons (opv (Ev.ldv ty3 (.t rfl) SChange.l_kind) ?_)
  refine nil (pN (block (seq (region (cons (opv (Ev.eql_i (.t rfl) (.c (v := I 1) rfl)) ?_))))))
  refine cons (opv (Ev.assign (.t rfl)) (nil (pN ?_)))
  first | refine condD rfl (fun h0 => ?_) (fun h0 => ?_) | refine cond rfl (fun h0 => ?_) (fun h0 => ?_)
  · have ek : c.kind = 1 := h0
    refine seq (seq (region (cons (opv (Ev.move (.t rfl)) (cons (opv (Ev.geq_i (.t rfl) (.c (v := I 0) rfl)) ?_))))))
    refine cons (opv (Ev.move (.t rfl)) (cons (opg rfl rfl (Ev.fieldAddr (o := 1) (.t rfl) (by kernel_rfl)) ?_)))
    refine cons (opg rfl rfl (Ev.ldv ty3 (.g rfl id) SChange.l_port) ?_)
    refine cons (opg rfl rfl (Ev.lss_i (.g rfl id) (.c (v := I 0) rfl)) ?_)
    refine cons (opv (Ev.pickO (.t rfl) (.c (v := .bool true) rfl) (fun {_} h => by cases h; rfl) ⟨_, rfl⟩ (by intro h1 h; first | (rw [h] <;> rfl) | (rw [h1, h] <;> rfl) | (rw [h, h1] <;> rfl) | simp_all)) ?_)
    refine cons (opv (Ev.move (.t rfl)) (cons (opg rfl rfl (Ev.fieldAddr (o := 1) (.t rfl) (by kernel_rfl)) ?_)))
    refine cons (opg rfl rfl (Ev.ldv ty3 (.g rfl id) SChange.l_port) ?_)
    refine cons (opg rfl rfl (Ev.gtr_i (.g rfl id) (.c (v := I 255) rfl)) ?_)
    refine cons (opv (Ev.pickO (.t rfl) (.c (v := .bool true) rfl) (fun {_} h => by cases h; rfl) ⟨_, rfl⟩ (by intro h1 h; first | (rw [h] <;> rfl) | (rw [h1, h] <;> rfl) | (rw [h, h1] <;> rfl) | simp_all)) ?_)
    refine nil (pN ?_)
    first | refine condD rfl (fun h1 => ?_) (fun h1 => ?_) | refine cond rfl (fun h1 => ?_) (fun h1 => ?_)
    · have hbad : addBad l c = true := by unfold addBad; exact h1
      refine seq (region (cons (opv (Ev.assign (.c (v := .bool false) rfl)) ?_)))
      refine nil (pN (ret (pR (bR (pR (done rfl (.tmp rfl .nil) (fun w I => ?_)))))))
      have eL : changeL l c rl = l := by unfold changeL; rw [ek, if_pos rfl, if_pos hbad]
      have eD : changeD d c = d := by unfold changeD; rw [ek, if_neg (by decide)]
      have eB : changeB l c = false := by unfold changeB; rw [ek, if_pos rfl]; rw [hbad]; rfl
      refine retR (n := 185) (r' := fun x2 => CR b x2 (changeL l c rl) (changeD d c)) (⟨x.o1, x.o2, x.o3, x.o4, x.o5⟩ : CB) trivial (by rw [eB]; rfl) (List.mem_singleton_self _) w ?_
      rw [eL, eD]
      exact WInv.seps _ _ [] (I.subP (by repeat first | exact SubP.nil | refine SubP.cons (by repeat first | exact Rem.head | apply Rem.tail) ?_))
    · have hok : ¬ addBad l c = true := fun e => Bool.false_ne_true ((show addBad l c = false from h1).symm.trans e)
      refine skip (pN (seq (draw' (by kernel_rfl) ?_)))
      refine tk 0 rfl (Ev.move (.t rfl)) ?_
      refine tk 1 rfl (Ev.nilCheck (.t rfl)) ?_
      refine tk 2 rfl (Ev.fieldAddr (o := 0) (.t rfl) (by kernel_rfl)) ?_
      refine tk 3 rfl (Ev.to (v' := x.o1.v) (Ev.ldv ty22 (.t rfl) SConf.l_ports) (rfl)) ?_
      refine tk 4 rfl (Ev.fieldAddr (o := 1) (.t rfl) (by kernel_rfl)) ?_
      refine tk 5 rfl (Ev.ldv ty3 (.t rfl) SChange.l_port) ?_
      refine al1 6 rfl ((callv en135 (.cons (.t rfl) (.cons (.t rfl) .nil)) (fun w I => search_ok _ l.ps _ w (isSl_own (by repeat first | exact mH | apply mT | apply mA) w I) hs (by omega)) ?_))
      refine hdn (tk 7 rfl (Ev.move (.t rfl)) ?_)
      refine tk 8 rfl (Ev.extract (.t rfl) rfl) ?_
      refine tk 9 rfl (Ev.extract (.t rfl) rfl) ?_
      refine tk 10 rfl (Ev.assign (.t rfl)) ?_
      refine tk 11 rfl (Ev.assign (.t rfl)) ?_
      refine ovr (pN (draw [Var b1 eChange c 61, OwnS x.o2.v eRoute l.rs 52, OwnS x.o3.v eRule l.us 76, OwnS x.o4.v eMeterConf l.ms 57, OwnS x.o5.v eMirrorConf l.xs 59] (by kernel_rfl) ?_))
      refine tk 0 rfl (Ev.move (.t rfl)) ?_
      refine tk 1 rfl (Ev.move (.t rfl)) ?_
      refine tk 2 rfl (Ev.nilCheck (.t rfl)) ?_
      refine tk 3 rfl (Ev.fieldAddr (o := 0) (.t rfl) (by kernel_rfl)) ?_
      refine tk 5 rfl (Ev.move (.t rfl)) ?_
      refine tk 6 rfl (Ev.fieldAddr (o := 1) (.t rfl) (by kernel_rfl)) ?_
      refine tk 7 rfl (Ev.ldv ty3 (.t rfl) SChange.l_port) ?_
      refine all [4, 8] (by kernel_rfl) (by decide) (.cons rfl ?_ (.cons rfl ?_ .nil))
      · refine (opv (Ev.to (v' := x.o1.v) (Ev.ldv ty22 (.t rfl) SConf.l_ports) (rfl)) ?_)
        refine hdn (al1 8 rfl ((buildSlice (E := iE) Tryz.underlying22 ty3 z3 (.cons (.t rfl) .nil) rfl rfl (fun v2 => ?_))))
        refine hdn (al1 9 rfl ((callr (X := OV) (r := OwnS x.o1.v iE l.ps 3) (r' := fun n1 => OwnS n1.v iE (insL l.ps (lowB l.ps c.port) c.port) 3) (fun _ => True) (fun n1 => n1.v) (fun _ => by repeat first | exact Upd.head | apply Upd.tail | apply Upd.right) (by repeat first | exact mH | apply mT | apply mA) en136 (.cons (.t rfl) (.cons (.t rfl) (.cons (.t rfl) .nil))) (fun w I => insert_ok x.o1 v2 l.ps (lowB l.ps c.port) c.port w (at_mem (by repeat first | exact mH | apply mT | apply mA) w I) (at_mem (by repeat first | exact mH | apply mT | apply mA) w I) (I.disj (by repeat first | exact Rem.head | apply Rem.tail) (by repeat first | exact Rem.head | apply Rem.tail)) (lowB_le _ _) (by omega)) (fun n1 _ => ?_))))
        refine hdn (tk 10 rfl (Ev.nilCheck (.t rfl)) ?_)
        refine tk 11 rfl (Ev.fieldAddr (o := 0) (.t rfl) (by kernel_rfl)) ?_
        refine al1 12 rfl ((stv ty22 SConf.l_ports (.t rfl) (.t rfl) ?_))
        refine hdn (ovr (bN (pN (seq (region (cons (opv (Ev.move (.t rfl)) (cons (opv (Ev.assign (.t rfl)) (nil (pN (ret (done rfl (.tmp rfl .nil) (fun w I => ?_))))))))))))))
        have eL : changeL l c rl = { l with ps := insL l.ps (lowB l.ps c.port) c.port } := by unfold changeL; rw [ek, if_pos rfl, if_neg hok]
        have eD : changeD d c = d := by unfold changeD; rw [ek, if_neg (by decide)]
        have eB : changeB l c = true := by unfold changeB; rw [ek, if_pos rfl]; rw [eq_false_of_ne_true hok]; rfl
        refine retR (n := 185) (r' := fun x2 => CR b x2 (changeL l c rl) (changeD d c)) (⟨n1, x.o2, x.o3, x.o4, x.o5⟩ : CB) trivial (by rw [eB]; rfl) (List.mem_singleton_self _) w ?_
        rw [eL, eD]
        exact WInv.seps _ _ [] (I.subP (by repeat first | exact SubP.nil | refine SubP.cons (by repeat first | exact Rem.head | apply Rem.tail) ?_))
      · refine (buildSlice (E := iE) Tryz.underlying22 ty3 z3 (.cons (.t rfl) .nil) rfl rfl (fun v3 => ?_))
        refine hdn (al1 4 rfl ((opv (Ev.to (v' := x.o1.v) (Ev.ldv ty22 (.t rfl) SConf.l_ports) (rfl)) ?_)))
        refine hdn (al1 9 rfl ((callr (X := OV) (r := OwnS x.o1.v iE l.ps 3) (r' := fun n1 => OwnS n1.v iE (insL l.ps (lowB l.ps c.port) c.port) 3) (fun _ => True) (fun n1 => n1.v) (fun _ => by repeat first | exact Upd.head | apply Upd.tail | apply Upd.right) (by repeat first | exact mH | apply mT | apply mA) en136 (.cons (.t rfl) (.cons (.t rfl) (.cons (.t rfl) .nil))) (fun w I => insert_ok x.o1 v3 l.ps (lowB l.ps c.port) c.port w (at_mem (by repeat first | exact mH | apply mT | apply mA) w I) (at_mem (by repeat first | exact mH | apply mT | apply mA) w I) (I.disj (by repeat first | exact Rem.head | apply Rem.tail) (by repeat first | exact Rem.head | apply Rem.tail)) (lowB_le _ _) (by omega)) (fun n1 _ => ?_))))
        refine hdn (tk 10 rfl (Ev.nilCheck (.t rfl)) ?_)
        refine tk 11 rfl (Ev.fieldAddr (o := 0) (.t rfl) (by kernel_rfl)) ?_
        refine al1 12 rfl ((stv ty22 SConf.l_ports (.t rfl) (.t rfl) ?_))
        refine hdn (ovr (bN (pN (seq (region (cons (opv (Ev.move (.t rfl)) (cons (opv (Ev.assign (.t rfl)) (nil (pN (ret (done rfl (.tmp rfl .nil) (fun w I => ?_))))))))))))))
        have eL : changeL l c rl = { l with ps := insL l.ps (lowB l.ps c.port) c.port } := by unfold changeL; rw [ek, if_pos rfl, if_neg hok]
        have eD : changeD d c = d := by unfold changeD; rw [ek, if_neg (by decide)]
        have eB : changeB l c = true := by unfold changeB; rw [ek, if_pos rfl]; rw [eq_false_of_ne_true hok]; rfl
        refine retR (n := 185) (r' := fun x2 => CR b x2 (changeL l c rl) (changeD d c)) (⟨n1, x.o2, x.o3, x.o4, x.o5⟩ : CB) trivial (by rw [eB]; rfl) (List.mem_singleton_self _) w ?_
        rw [eL, eD]
        exact WInv.seps _ _ [] (I.subP (by repeat first | exact SubP.nil | refine SubP.cons (by repeat first | exact Rem.head | apply Rem.tail) ?_))
  · have n1 : ¬ c.kind = 1 := h0
    refine seq (region (cons (opv (Ev.eql_i (.t rfl) (.c (v := I 2) rfl)) ?_)))
    refine cons (opv (Ev.assign (.t rfl)) (nil (pN ?_)))
    first | refine condD rfl (fun h2 => ?_) (fun h2 => ?_) | refine cond rfl (fun h2 => ?_) (fun h2 => ?_)
    · have ek : c.kind = 2 := h2
      refine region (cons (opv (Ev.move (.t rfl)) (cons (opv (Ev.move (.t rfl)) (cons (opv (Ev.nilCheck (.t rfl)) ?_))))))
      refine cons (opv (Ev.fieldAddr (o := 0) (.t rfl) (by kernel_rfl)) ?_)
      refine cons (opv (Ev.to (v' := x.o1.v) (Ev.ldv ty22 (.t rfl) SConf.l_ports) (rfl)) ?_)
      refine cons (opv (Ev.move (.t rfl)) (cons (callr (X := OV) (r := OwnS x.o1.v iE l.ps 3) (r' := fun n1 => OwnS n1.v iE (cutI l.ps (iP l c)) 3) (fun _ => True) (fun n1 => .tuple #[n1.v, .bool (decide (¬ iP l c < 0))]) (fun _ => by repeat first | exact Upd.head | apply Upd.tail | apply Upd.right) (by repeat first | exact mH | apply mT | apply mA) en137 (.cons (.t rfl) (.cons (.t rfl) .nil)) (fun w I => cut_3 x.o1 l.ps (iP l c) w (at_mem (by repeat first | exact mH | apply mT | apply mA) w I) (by have := idxF_lt (fun y => decide (c.port = y)) l.ps; have h2 : iP l c = idxF (fun y => decide (c.port = y)) l.ps := rfl; omega)) (fun n1 _ => ?_))))
      refine cons (opv (Ev.move (.t rfl)) (cons (opv (Ev.extract (.t rfl) rfl) (cons (opv (Ev.extract (.t rfl) rfl) (cons (opv (Ev.nilCheck (.t rfl)) ?_)))))))
      refine cons (opv (Ev.fieldAddr (o := 0) (.t rfl) (by kernel_rfl)) ?_)
      refine cons (stv ty22 SConf.l_ports (.t rfl) (.t rfl) ?_)
      refine cons (opv (Ev.assign (.t rfl)) (nil (bN (pN (seq (region (cons (opv (Ev.move (.t rfl)) (cons (opv (Ev.assign (.t rfl)) (nil (pN (ret (done rfl (.tmp rfl .nil) (fun w I => ?_)))))))))))))))
      have eL : changeL l c rl = { l with ps := cutI l.ps (iP l c) } := by unfold changeL; rw [ek, if_neg (by decide), if_pos rfl]
      have eD : changeD d c = d := by unfold changeD; rw [ek, if_neg (by decide)]
      have eB : changeB l c = decide (¬ iP l c < 0) := by unfold changeB; rw [ek, if_neg (by decide), if_pos rfl]
      refine retR (n := 185) (r' := fun x2 => CR b x2 (changeL l c rl) (changeD d c)) (⟨n1, x.o2, x.o3, x.o4, x.o5⟩ : CB) trivial (by rw [eB]; rfl) (List.mem_singleton_self _) w ?_
      rw [eL, eD]
      exact WInv.seps _ _ [] (I.subP (by repeat first | exact SubP.nil | refine SubP.cons (by repeat first | exact Rem.head | apply Rem.tail) ?_))
    · have n2 : ¬ c.kind = 2 := h2
      refine seq (region (cons (opv (Ev.eql_i (.t rfl) (.c (v := I 3) rfl)) ?_)))
      refine cons (opv (Ev.assign (.t rfl)) (nil (pN ?_)))
      first | refine condD rfl (fun h3 => ?_) (fun h3 => ?_) | refine cond rfl (fun h3 => ?_) (fun h3 => ?_)
      · have ek : c.kind = 3 := h3
        refine draw [Var b1 eChange c 61, OwnS x.o1.v iE l.ps 3, OwnS x.o3.v eRule l.us 76, OwnS x.o4.v eMeterConf l.ms 57, OwnS x.o5.v eMirrorConf l.xs 59] (by kernel_rfl) ?_
        refine tk 0 rfl (Ev.move (.t rfl)) ?_
        refine tk 1 rfl (Ev.move (.t rfl)) ?_
        refine tk 2 rfl (Ev.nilCheck (.t rfl)) ?_
        refine tk 3 rfl (Ev.fieldAddr (o := 1) (.t rfl) (by kernel_rfl)) ?_
        refine tk 5 rfl (Ev.move (.t rfl)) ?_
        refine tk 6 rfl (Ev.fieldAddr (o := 2) (.t rfl) (by kernel_rfl)) ?_
        refine tk 7 rfl (Ev.ldv ty52 (.t rfl) SChange.l_route) ?_
        refine al1 4 rfl ((opv (Ev.to (v' := x.o2.v) (Ev.ldv ty23 (.t rfl) SConf.l_routes) (rfl)) ?_))
        refine hdn (al1 8 rfl ((callr (X := OV) (r := OwnS x.o2.v eRoute l.rs 52) (r' := fun n1 => OwnS n1.v eRoute (setL l.rs (iR l c) c.route) 52) (fun _ => True) (fun n1 => n1.v) (fun _ => by repeat first | exact Upd.head | apply Upd.tail | apply Upd.right) (by repeat first | exact mH | apply mT | apply mA) en138 (.cons (.t rfl) (.cons (.t rfl) (.cons (.t rfl) .nil))) (fun w I => set_52 x.o2 l.rs (iR l c) c.route w (at_mem (by repeat first | exact mH | apply mT | apply mA) w I) (by omega) (by have := idxF_lt (fun r => SPrefix.eqb r.to_ c.route.to_) l.rs; have h2 : iR l c = idxF (fun r => SPrefix.eqb r.to_ c.route.to_) l.rs := rfl; omega)) (fun n1 _ => ?_))))
        refine hdn (tk 9 rfl (Ev.nilCheck (.t rfl)) ?_)
        refine tk 10 rfl (Ev.fieldAddr (o := 1) (.t rfl) (by kernel_rfl)) ?_
        refine al1 11 rfl ((stv ty23 SConf.l_routes (.t rfl) (.t rfl) ?_))
        refine hdn (ovr (bN (pN (seq (region (cons (opv (Ev.move (.t rfl)) (cons (opv (Ev.assign (.t rfl)) (nil (pN (ret (done rfl (.tmp rfl .nil) (fun w I => ?_))))))))))))))
        have eL : changeL l c rl = { l with rs := setL l.rs (iR l c) c.route } := by unfold changeL; rw [ek, if_neg (by decide), if_neg (by decide), if_pos rfl]
        have eD : changeD d c = d := by unfold changeD; rw [ek, if_neg (by decide)]
        have eB : changeB l c = true := by unfold changeB; rw [ek, if_neg (by decide), if_neg (by decide), if_pos rfl]
        refine retR (n := 185) (r' := fun x2 => CR b x2 (changeL l c rl) (changeD d c)) (⟨x.o1, n1, x.o3, x.o4, x.o5⟩ : CB) trivial (by rw [eB]; rfl) (List.mem_singleton_self _) w ?_
        rw [eL, eD]
        exact WInv.seps _ _ [] (I.subP (by repeat first | exact SubP.nil | refine SubP.cons (by repeat first | exact Rem.head | apply Rem.tail) ?_))
      · have n3 : ¬ c.kind = 3 := h3
        refine seq (region (cons (opv (Ev.eql_i (.t rfl) (.c (v := I 4) rfl)) ?_)))
        refine cons (opv (Ev.assign (.t rfl)) (nil (pN ?_)))
        first | refine condD rfl (fun h4 => ?_) (fun h4 => ?_) | refine cond rfl (fun h4 => ?_) (fun h4 => ?_)
        · have ek : c.kind = 4 := h4
          refine region (cons (opv (Ev.move (.t rfl)) (cons (opv (Ev.move (.t rfl)) (cons (opv (Ev.nilCheck (.t rfl)) ?_))))))
          refine cons (opv (Ev.fieldAddr (o := 1) (.t rfl) (by kernel_rfl)) ?_)
          refine cons (opv (Ev.to (v' := x.o2.v) (Ev.ldv ty23 (.t rfl) SConf.l_routes) (rfl)) ?_)
          refine cons (opv (Ev.move (.t rfl)) (cons (callr (X := OV) (r := OwnS x.o2.v eRoute l.rs 52) (r' := fun n1 => OwnS n1.v eRoute (cutI l.rs (iR l c)) 52) (fun _ => True) (fun n1 => .tuple #[n1.v, .bool (decide (¬ iR l c < 0))]) (fun _ => by repeat first | exact Upd.head | apply Upd.tail | apply Upd.right) (by repeat first | exact mH | apply mT | apply mA) en139 (.cons (.t rfl) (.cons (.t rfl) .nil)) (fun w I => cut_52 x.o2 l.rs (iR l c) w (at_mem (by repeat first | exact mH | apply mT | apply mA) w I) (by have := idxF_lt (fun r => SPrefix.eqb r.to_ c.route.to_) l.rs; have h2 : iR l c = idxF (fun r => SPrefix.eqb r.to_ c.route.to_) l.rs := rfl; omega)) (fun n1 _ => ?_))))
          refine cons (opv (Ev.move (.t rfl)) (cons (opv (Ev.extract (.t rfl) rfl) (cons (opv (Ev.extract (.t rfl) rfl) (cons (opv (Ev.nilCheck (.t rfl)) ?_)))))))
          refine cons (opv (Ev.fieldAddr (o := 1) (.t rfl) (by kernel_rfl)) ?_)
          refine cons (stv ty23 SConf.l_routes (.t rfl) (.t rfl) ?_)
          refine cons (opv (Ev.assign (.t rfl)) (nil (bN (pN (seq (region (cons (opv (Ev.move (.t rfl)) (cons (opv (Ev.assign (.t rfl)) (nil (pN (ret (done rfl (.tmp rfl .nil) (fun w I => ?_)))))))))))))))
          have eL : changeL l c rl = { l with rs := cutI l.rs (iR l c) } := by unfold changeL; rw [ek, if_neg (by decide), if_neg (by decide), if_neg (by decide), if_pos rfl]
          have eD : changeD d c = d := by unfold changeD; rw [ek, if_neg (by decide)]
          have eB : changeB l c = decide (¬ iR l c < 0) := by unfold changeB; rw [ek, if_neg (by decide), if_neg (by decide), if_neg (by decide), if_pos rfl]
          refine retR (n := 185) (r' := fun x2 => CR b x2 (changeL l c rl) (changeD d c)) (⟨x.o1, n1, x.o3, x.o4, x.o5⟩ : CB) trivial (by rw [eB]; rfl) (List.mem_singleton_self _) w ?_
          rw [eL, eD]
          exact WInv.seps _ _ [] (I.subP (by repeat first | exact SubP.nil | refine SubP.cons (by repeat first | exact Rem.head | apply Rem.tail) ?_))
        · have n4 : ¬ c.kind = 4 := h4
          refine seq (region (cons (opv (Ev.eql_i (.t rfl) (.c (v := I 5) rfl)) ?_)))
          refine cons (opv (Ev.assign (.t rfl)) (nil (pN ?_)))
          first | refine condD rfl (fun h5 => ?_) (fun h5 => ?_) | refine cond rfl (fun h5 => ?_) (fun h5 => ?_)
          · have ek : c.kind = 5 := h5
            refine draw [Var b1 eChange c 61, OwnS x.o1.v iE l.ps 3, OwnS x.o2.v eRoute l.rs 52, OwnS x.o3.v eRule l.us 76, OwnS x.o5.v eMirrorConf l.xs 59] (by kernel_rfl) ?_
            refine tk 0 rfl (Ev.move (.t rfl)) ?_
            refine tk 1 rfl (Ev.move (.t rfl)) ?_
            refine tk 2 rfl (Ev.nilCheck (.t rfl)) ?_
            refine tk 3 rfl (Ev.fieldAddr (o := 3) (.t rfl) (by kernel_rfl)) ?_
            refine tk 5 rfl (Ev.move (.t rfl)) ?_
            refine tk 6 rfl (Ev.fieldAddr (o := 21) (.t rfl) (by kernel_rfl)) ?_
            refine tk 7 rfl (Ev.ldv ty57 (.t rfl) SChange.l_meter) ?_
            refine al1 4 rfl ((opv (Ev.to (v' := x.o4.v) (Ev.ldv ty25 (.t rfl) SConf.l_meters) (rfl)) ?_))
            refine hdn (al1 8 rfl ((callr (X := OV) (r := OwnS x.o4.v eMeterConf l.ms 57) (r' := fun n1 => OwnS n1.v eMeterConf (setL l.ms (iM l c) c.meter) 57) (fun _ => True) (fun n1 => n1.v) (fun _ => by repeat first | exact Upd.head | apply Upd.tail | apply Upd.right) (by repeat first | exact mH | apply mT | apply mA) en140 (.cons (.t rfl) (.cons (.t rfl) (.cons (.t rfl) .nil))) (fun w I => set_57 x.o4 l.ms (iM l c) c.meter w (at_mem (by repeat first | exact mH | apply mT | apply mA) w I) (by omega) (by have := idxF_lt (fun r => decide (r.name = c.meter.name)) l.ms; have h2 : iM l c = idxF (fun r => decide (r.name = c.meter.name)) l.ms := rfl; omega)) (fun n1 _ => ?_))))
            refine hdn (tk 9 rfl (Ev.nilCheck (.t rfl)) ?_)
            refine tk 10 rfl (Ev.fieldAddr (o := 3) (.t rfl) (by kernel_rfl)) ?_
            refine al1 11 rfl ((stv ty25 SConf.l_meters (.t rfl) (.t rfl) ?_))
            refine hdn (ovr (bN (pN (seq (region (cons (opv (Ev.move (.t rfl)) (cons (opv (Ev.assign (.t rfl)) (nil (pN (ret (done rfl (.tmp rfl .nil) (fun w I => ?_))))))))))))))
            have eL : changeL l c rl = { l with ms := setL l.ms (iM l c) c.meter } := by unfold changeL; rw [ek, if_neg (by decide), if_neg (by decide), if_neg (by decide), if_neg (by decide), if_pos rfl]
            have eD : changeD d c = d := by unfold changeD; rw [ek, if_neg (by decide)]
            have eB : changeB l c = true := by unfold changeB; rw [ek, if_neg (by decide), if_neg (by decide), if_neg (by decide), if_neg (by decide), if_pos rfl]
            refine retR (n := 185) (r' := fun x2 => CR b x2 (changeL l c rl) (changeD d c)) (⟨x.o1, x.o2, x.o3, n1, x.o5⟩ : CB) trivial (by rw [eB]; rfl) (List.mem_singleton_self _) w ?_
            rw [eL, eD]
            exact WInv.seps _ _ [] (I.subP (by repeat first | exact SubP.nil | refine SubP.cons (by repeat first | exact Rem.head | apply Rem.tail) ?_))
          · have n5 : ¬ c.kind = 5 := h5
            refine seq (region (cons (opv (Ev.eql_i (.t rfl) (.c (v := I 6) rfl)) ?_)))
            refine cons (opv (Ev.assign (.t rfl)) (nil (pN ?_)))
            first | refine condD rfl (fun h6 => ?_) (fun h6 => ?_) | refine cond rfl (fun h6 => ?_) (fun h6 => ?_)
            · have ek : c.kind = 6 := h6
              refine region (cons (opv (Ev.move (.t rfl)) (cons (opv (Ev.move (.t rfl)) (cons (opv (Ev.nilCheck (.t rfl)) ?_))))))
              refine cons (opv (Ev.fieldAddr (o := 3) (.t rfl) (by kernel_rfl)) ?_)
              refine cons (opv (Ev.to (v' := x.o4.v) (Ev.ldv ty25 (.t rfl) SConf.l_meters) (rfl)) ?_)
              refine cons (opv (Ev.move (.t rfl)) (cons (callr (X := OV) (r := OwnS x.o4.v eMeterConf l.ms 57) (r' := fun n1 => OwnS n1.v eMeterConf (cutI l.ms (iM l c)) 57) (fun _ => True) (fun n1 => .tuple #[n1.v, .bool (decide (¬ iM l c < 0))]) (fun _ => by repeat first | exact Upd.head | apply Upd.tail | apply Upd.right) (by repeat first | exact mH | apply mT | apply mA) en141 (.cons (.t rfl) (.cons (.t rfl) .nil)) (fun w I => cut_57 x.o4 l.ms (iM l c) w (at_mem (by repeat first | exact mH | apply mT | apply mA) w I) (by have := idxF_lt (fun r => decide (r.name = c.meter.name)) l.ms; have h2 : iM l c = idxF (fun r => decide (r.name = c.meter.name)) l.ms := rfl; omega)) (fun n1 _ => ?_))))
              refine cons (opv (Ev.move (.t rfl)) (cons (opv (Ev.extract (.t rfl) rfl) (cons (opv (Ev.extract (.t rfl) rfl) (cons (opv (Ev.nilCheck (.t rfl)) ?_)))))))
              refine cons (opv (Ev.fieldAddr (o := 3) (.t rfl) (by kernel_rfl)) ?_)
              refine cons (stv ty25 SConf.l_meters (.t rfl) (.t rfl) ?_)
              refine cons (opv (Ev.assign (.t rfl)) (nil (bN (pN (seq (region (cons (opv (Ev.move (.t rfl)) (cons (opv (Ev.assign (.t rfl)) (nil (pN (ret (done rfl (.tmp rfl .nil) (fun w I => ?_)))))))))))))))
              have eL : changeL l c rl = { l with ms := cutI l.ms (iM l c) } := by unfold changeL; rw [ek, if_neg (by decide), if_neg (by decide), if_neg (by decide), if_neg (by decide), if_neg (by decide), if_pos rfl]
              have eD : changeD d c = d := by unfold changeD; rw [ek, if_neg (by decide)]
              have eB : changeB l c = decide (¬ iM l c < 0) := by unfold changeB; rw [ek, if_neg (by decide), if_neg (by decide), if_neg (by decide), if_neg (by decide), if_neg (by decide), if_pos rfl]
              refine retR (n := 185) (r' := fun x2 => CR b x2 (changeL l c rl) (changeD d c)) (⟨x.o1, x.o2, x.o3, n1, x.o5⟩ : CB) trivial (by rw [eB]; rfl) (List.mem_singleton_self _) w ?_
              rw [eL, eD]
              exact WInv.seps _ _ [] (I.subP (by repeat first | exact SubP.nil | refine SubP.cons (by repeat first | exact Rem.head | apply Rem.tail) ?_))
            · have n6 : ¬ c.kind = 6 := h6
              refine seq (region (cons (opv (Ev.eql_i (.t rfl) (.c (v := I 7) rfl)) ?_)))
              refine cons (opv (Ev.assign (.t rfl)) (nil (pN ?_)))
              first | refine condD rfl (fun h7 => ?_) (fun h7 => ?_) | refine cond rfl (fun h7 => ?_) (fun h7 => ?_)
              · have ek : c.kind = 7 := h7
                refine draw [Var b1 eChange c 61, OwnS x.o1.v iE l.ps 3, OwnS x.o2.v eRoute l.rs 52, OwnS x.o3.v eRule l.us 76, OwnS x.o4.v eMeterConf l.ms 57] (by kernel_rfl) ?_
                refine tk 0 rfl (Ev.move (.t rfl)) ?_
                refine tk 1 rfl (Ev.move (.t rfl)) ?_
                refine tk 2 rfl (Ev.nilCheck (.t rfl)) ?_
                refine tk 3 rfl (Ev.fieldAddr (o := 4) (.t rfl) (by kernel_rfl)) ?_
                refine tk 5 rfl (Ev.move (.t rfl)) ?_
                refine tk 6 rfl (Ev.fieldAddr (o := 25) (.t rfl) (by kernel_rfl)) ?_
                refine tk 7 rfl (Ev.ldv ty59 (.t rfl) SChange.l_mirror) ?_
                refine al1 4 rfl ((opv (Ev.to (v' := x.o5.v) (Ev.ldv ty26 (.t rfl) SConf.l_mirrors) (rfl)) ?_))
                refine hdn (al1 8 rfl ((callr (X := OV) (r := OwnS x.o5.v eMirrorConf l.xs 59) (r' := fun n1 => OwnS n1.v eMirrorConf (setL l.xs (iX l c) c.mirror) 59) (fun _ => True) (fun n1 => n1.v) (fun _ => by repeat first | exact Upd.head | apply Upd.tail | apply Upd.right) (by repeat first | exact mH | apply mT | apply mA) en142 (.cons (.t rfl) (.cons (.t rfl) (.cons (.t rfl) .nil))) (fun w I => set_59 x.o5 l.xs (iX l c) c.mirror w (at_mem (by repeat first | exact mH | apply mT | apply mA) w I) (by omega) (by have := idxF_lt (fun r => decide (r.name = c.mirror.name)) l.xs; have h2 : iX l c = idxF (fun r => decide (r.name = c.mirror.name)) l.xs := rfl; omega)) (fun n1 _ => ?_))))
                refine hdn (tk 9 rfl (Ev.nilCheck (.t rfl)) ?_)
                refine tk 10 rfl (Ev.fieldAddr (o := 4) (.t rfl) (by kernel_rfl)) ?_
                refine al1 11 rfl ((stv ty26 SConf.l_mirrors (.t rfl) (.t rfl) ?_))
                refine hdn (ovr (bN (pN (seq (region (cons (opv (Ev.move (.t rfl)) (cons (opv (Ev.assign (.t rfl)) (nil (pN (ret (done rfl (.tmp rfl .nil) (fun w I => ?_))))))))))))))
                have eL : changeL l c rl = { l with xs := setL l.xs (iX l c) c.mirror } := by unfold changeL; rw [ek, if_neg (by decide), if_neg (by decide), if_neg (by decide), if_neg (by decide), if_neg (by decide), if_neg (by decide), if_pos rfl]
                have eD : changeD d c = d := by unfold changeD; rw [ek, if_neg (by decide)]
                have eB : changeB l c = true := by unfold changeB; rw [ek, if_neg (by decide), if_neg (by decide), if_neg (by decide), if_neg (by decide), if_neg (by decide), if_neg (by decide), if_pos rfl]
                refine retR (n := 185) (r' := fun x2 => CR b x2 (changeL l c rl) (changeD d c)) (⟨x.o1, x.o2, x.o3, x.o4, n1⟩ : CB) trivial (by rw [eB]; rfl) (List.mem_singleton_self _) w ?_
                rw [eL, eD]
                exact WInv.seps _ _ [] (I.subP (by repeat first | exact SubP.nil | refine SubP.cons (by repeat first | exact Rem.head | apply Rem.tail) ?_))
              · have n7 : ¬ c.kind = 7 := h7
                refine seq (region (cons (opv (Ev.eql_i (.t rfl) (.c (v := I 8) rfl)) ?_)))
                refine cons (opv (Ev.assign (.t rfl)) (nil (pN ?_)))
                first | refine condD rfl (fun h8 => ?_) (fun h8 => ?_) | refine cond rfl (fun h8 => ?_) (fun h8 => ?_)
                · have ek : c.kind = 8 := h8
                  refine region (cons (opv (Ev.move (.t rfl)) (cons (opv (Ev.move (.t rfl)) (cons (opv (Ev.nilCheck (.t rfl)) ?_))))))
                  refine cons (opv (Ev.fieldAddr (o := 4) (.t rfl) (by kernel_rfl)) ?_)
                  refine cons (opv (Ev.to (v' := x.o5.v) (Ev.ldv ty26 (.t rfl) SConf.l_mirrors) (rfl)) ?_)
                  refine cons (opv (Ev.move (.t rfl)) (cons (callr (X := OV) (r := OwnS x.o5.v eMirrorConf l.xs 59) (r' := fun n1 => OwnS n1.v eMirrorConf (cutI l.xs (iX l c)) 59) (fun _ => True) (fun n1 => .tuple #[n1.v, .bool (decide (¬ iX l c < 0))]) (fun _ => by repeat first | exact Upd.head | apply Upd.tail | apply Upd.right) (by repeat first | exact mH | apply mT | apply mA) en143 (.cons (.t rfl) (.cons (.t rfl) .nil)) (fun w I => cut_59 x.o5 l.xs (iX l c) w (at_mem (by repeat first | exact mH | apply mT | apply mA) w I) (by have := idxF_lt (fun r => decide (r.name = c.mirror.name)) l.xs; have h2 : iX l c = idxF (fun r => decide (r.name = c.mirror.name)) l.xs := rfl; omega)) (fun n1 _ => ?_))))
                  refine cons (opv (Ev.move (.t rfl)) (cons (opv (Ev.extract (.t rfl) rfl) (cons (opv (Ev.extract (.t rfl) rfl) (cons (opv (Ev.nilCheck (.t rfl)) ?_)))))))
                  refine cons (opv (Ev.fieldAddr (o := 4) (.t rfl) (by kernel_rfl)) ?_)
                  refine cons (stv ty26 SConf.l_mirrors (.t rfl) (.t rfl) ?_)
                  refine cons (opv (Ev.assign (.t rfl)) (nil (bN (pN (seq (region (cons (opv (Ev.move (.t rfl)) (cons (opv (Ev.assign (.t rfl)) (nil (pN (ret (done rfl (.tmp rfl .nil) (fun w I => ?_)))))))))))))))
                  have eL : changeL l c rl = { l with xs := cutI l.xs (iX l c) } := by unfold changeL; rw [ek, if_neg (by decide), if_neg (by decide), if_neg (by decide), if_neg (by decide), if_neg (by decide), if_neg (by decide), if_neg (by decide), if_pos rfl]
                  have eD : changeD d c = d := by unfold changeD; rw [ek, if_neg (by decide)]
                  have eB : changeB l c = decide (¬ iX l c < 0) := by unfold changeB; rw [ek, if_neg (by decide), if_neg (by decide), if_neg (by decide), if_neg (by decide), if_neg (by decide), if_neg (by decide), if_neg (by decide), if_pos rfl]
                  refine retR (n := 185) (r' := fun x2 => CR b x2 (changeL l c rl) (changeD d c)) (⟨x.o1, x.o2, x.o3, x.o4, n1⟩ : CB) trivial (by rw [eB]; rfl) (List.mem_singleton_self _) w ?_
                  rw [eL, eD]
                  exact WInv.seps _ _ [] (I.subP (by repeat first | exact SubP.nil | refine SubP.cons (by repeat first | exact Rem.head | apply Rem.tail) ?_))
                · have n8 : ¬ c.kind = 8 := h8
                  refine seq (region (cons (opv (Ev.eql_i (.t rfl) (.c (v := I 9) rfl)) ?_)))
                  refine cons (opv (Ev.assign (.t rfl)) (nil (pN ?_)))
                  first | refine condD rfl (fun h9 => ?_) (fun h9 => ?_) | refine cond rfl (fun h9 => ?_) (fun h9 => ?_)
                  · have ek : c.kind = 9 := h9
                    refine region (cons (opv (Ev.move (.t rfl)) (cons (opv (Ev.fieldAddr (o := 28) (.t rfl) (by kernel_rfl)) ?_))))
                    refine cons (opv (Ev.ldv ty24 (.t rfl) SChange.l_rules) ?_)
                    refine cons (callo en50 (.cons (.t rfl) .nil) (fun w I => clone_76 _ rl w (hr w I.keeps) hrl) (fun n1 => ?_))
                    refine cons (opv (Ev.nilCheck (.t rfl)) ?_)
                    refine cons (opv (Ev.fieldAddr (o := 2) (.t rfl) (by kernel_rfl)) ?_)
                    refine cons (stv ty24 SConf.l_rules (.t rfl) (.t rfl) ?_)
                    refine nil (bN (pN (seq (region (cons (opv (Ev.move (.t rfl)) (cons (opv (Ev.assign (.t rfl)) (nil (pN (ret (done rfl (.tmp rfl .nil) (fun w I => ?_)))))))))))))
                    have eL : changeL l c rl = { l with us := rl } := by unfold changeL; rw [ek, if_neg (by decide), if_neg (by decide), if_neg (by decide), if_neg (by decide), if_neg (by decide), if_neg (by decide), if_neg (by decide), if_neg (by decide), if_pos rfl]
                    have eD : changeD d c = d := by unfold changeD; rw [ek, if_neg (by decide)]
                    have eB : changeB l c = true := by unfold changeB; rw [ek, if_neg (by decide), if_neg (by decide), if_neg (by decide), if_neg (by decide), if_neg (by decide), if_neg (by decide), if_neg (by decide), if_neg (by decide), if_pos rfl]
                    refine retR (n := 185) (r' := fun x2 => CR b x2 (changeL l c rl) (changeD d c)) (⟨x.o1, x.o2, n1, x.o4, x.o5⟩ : CB) trivial (by rw [eB]; rfl) (List.mem_singleton_self _) w ?_
                    rw [eL, eD]
                    exact WInv.seps _ _ [] (I.subP (by repeat first | exact SubP.nil | refine SubP.cons (by repeat first | exact Rem.head | apply Rem.tail) ?_))
                  · have n9 : ¬ c.kind = 9 := h9
                    refine seq (region (cons (opv (Ev.eql_i (.t rfl) (.c (v := I 10) rfl)) ?_)))
                    refine cons (opv (Ev.assign (.t rfl)) (nil (pN ?_)))
                    first | refine condD rfl (fun h10 => ?_) (fun h10 => ?_) | refine cond rfl (fun h10 => ?_) (fun h10 => ?_)
                    · have ek : c.kind = 10 := h10
                      refine region (cons (opv (Ev.move (.t rfl)) (cons (opv (Ev.fieldAddr (o := 29) (.t rfl) (by kernel_rfl)) ?_))))
                      refine cons (opv (Ev.ldv ty3 (.t rfl) SChange.l_default) ?_)
                      refine cons (opv (Ev.nilCheck (.t rfl)) ?_)
                      refine cons (opv (Ev.fieldAddr (o := 5) (.t rfl) (by kernel_rfl)) ?_)
                      refine cons (stv ty3 SConf.l_default (.t rfl) (.t rfl) ?_)
                      refine nil (bN (pN (seq (region (cons (opv (Ev.move (.t rfl)) (cons (opv (Ev.assign (.t rfl)) (nil (pN (ret (done rfl (.tmp rfl .nil) (fun w I => ?_)))))))))))))
                      have eL : changeL l c rl = l := by unfold changeL; rw [ek, if_neg (by decide), if_neg (by decide), if_neg (by decide), if_neg (by decide), if_neg (by decide), if_neg (by decide), if_neg (by decide), if_neg (by decide), if_neg (by decide)]
                      have eD : changeD d c = c.default := by unfold changeD; rw [ek, if_pos rfl]
                      have eB : changeB l c = true := by unfold changeB; rw [ek, if_neg (by decide), if_neg (by decide), if_neg (by decide), if_neg (by decide), if_neg (by decide), if_neg (by decide), if_neg (by decide), if_neg (by decide), if_neg (by decide)]; rfl
                      refine retR (n := 185) (r' := fun x2 => CR b x2 (changeL l c rl) (changeD d c)) (⟨x.o1, x.o2, x.o3, x.o4, x.o5⟩ : CB) trivial (by rw [eB]; rfl) (List.mem_singleton_self _) w ?_
                      rw [eL, eD]
                      exact WInv.seps _ _ [] (I.subP (by repeat first | exact SubP.nil | refine SubP.cons (by repeat first | exact Rem.head | apply Rem.tail) ?_))
                    · have n10 : ¬ c.kind = 10 := h10
                      refine seq (region (cons (opv (Ev.assign (.c (v := .bool false) rfl)) ?_)))
                      refine nil (pN (ret (bR (pR (done rfl (.tmp rfl .nil) (fun w I => ?_))))))
                      have eL : changeL l c rl = l := by unfold changeL; rw [if_neg n1, if_neg n2, if_neg n3, if_neg n4, if_neg n5, if_neg n6, if_neg n7, if_neg n8, if_neg n9]
                      have eD : changeD d c = d := by unfold changeD; rw [if_neg n10]
                      have eB : changeB l c = false := by unfold changeB; rw [if_neg n1, if_neg n2, if_neg n3, if_neg n4, if_neg n5, if_neg n6, if_neg n7, if_neg n8, if_neg n9]; exact decide_eq_false n10
                      refine retR (n := 185) (r' := fun x2 => CR b x2 (changeL l c rl) (changeD d c)) (⟨x.o1, x.o2, x.o3, x.o4, x.o5⟩ : CB) trivial (by rw [eB]; rfl) (List.mem_singleton_self _) w ?_
                      rw [eL, eD]
                      exact WInv.seps _ _ [] (I.subP (by repeat first | exact SubP.nil | refine SubP.cons (by repeat first | exact Rem.head | apply Rem.tail) ?_))
end Go.Proofs.YtnoobdijbpmjkaaGreat
