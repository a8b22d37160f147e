/- conf -/
import Derived.Test.YtnoobdijbpmjkaaGreatC6
set_option linter.unusedVariables false
set_option linter.unusedSimpArgs false
namespace Go.Proofs.YtnoobdijbpmjkaaGreat
open Go Go.Gx

structure SConf where
  ports : OV
  routes : OV
  rules : OV
  meters : OV
  mirrors : OV
  default : Int

def SConf.to : (OV × (OV × (OV × (OV × (OV × Int))))) → SConf := fun x => ⟨x.1, x.2.1, x.2.2.1, x.2.2.2.1, x.2.2.2.2.1, x.2.2.2.2.2⟩

def SConf.of : SConf → (OV × (OV × (OV × (OV × (OV × Int))))) := fun x => (x.ports, x.routes, x.rules, x.meters, x.mirrors, x.default)

def eConf : Enc SConf := isoE (prodE (ovE nilSl) (prodE (ovE nilSl) (prodE (ovE nilSl) (prodE (ovE nilSl) (prodE (ovE nilSl) iE))))) SConf.to SConf.of

def SConf.l_ports : Lens eConf (ovE nilSl) 0 := lIso _ SConf.to SConf.of (fun _ => rfl) (lFst (ovE nilSl) (prodE (ovE nilSl) (prodE (ovE nilSl) (prodE (ovE nilSl) (prodE (ovE nilSl) iE)))))

@[simp] theorem SConf.get_ports (x : SConf) : SConf.l_ports.get x = x.ports := rfl

@[simp] theorem SConf.set_ports (x : SConf) (y : OV) : SConf.l_ports.set x y = { x with ports := y } := rfl

def SConf.l_routes : Lens eConf (ovE nilSl) 1 := lIso _ SConf.to SConf.of (fun _ => rfl) (Lens.comp (lSnd (ovE nilSl) (prodE (ovE nilSl) (prodE (ovE nilSl) (prodE (ovE nilSl) (prodE (ovE nilSl) iE))))) (lFst (ovE nilSl) (prodE (ovE nilSl) (prodE (ovE nilSl) (prodE (ovE nilSl) iE)))))

@[simp] theorem SConf.get_routes (x : SConf) : SConf.l_routes.get x = x.routes := rfl

@[simp] theorem SConf.set_routes (x : SConf) (y : OV) : SConf.l_routes.set x y = { x with routes := y } := rfl

def SConf.l_rules : Lens eConf (ovE nilSl) 2 := lIso _ SConf.to SConf.of (fun _ => rfl) (Lens.comp (lSnd (ovE nilSl) (prodE (ovE nilSl) (prodE (ovE nilSl) (prodE (ovE nilSl) (prodE (ovE nilSl) iE))))) (Lens.comp (lSnd (ovE nilSl) (prodE (ovE nilSl) (prodE (ovE nilSl) (prodE (ovE nilSl) iE)))) (lFst (ovE nilSl) (prodE (ovE nilSl) (prodE (ovE nilSl) iE)))))

@[simp] theorem SConf.get_rules (x : SConf) : SConf.l_rules.get x = x.rules := rfl

@[simp] theorem SConf.set_rules (x : SConf) (y : OV) : SConf.l_rules.set x y = { x with rules := y } := rfl

def SConf.l_meters : Lens eConf (ovE nilSl) 3 := lIso _ SConf.to SConf.of (fun _ => rfl) (Lens.comp (lSnd (ovE nilSl) (prodE (ovE nilSl) (prodE (ovE nilSl) (prodE (ovE nilSl) (prodE (ovE nilSl) iE))))) (Lens.comp (lSnd (ovE nilSl) (prodE (ovE nilSl) (prodE (ovE nilSl) (prodE (ovE nilSl) iE)))) (Lens.comp (lSnd (ovE nilSl) (prodE (ovE nilSl) (prodE (ovE nilSl) iE))) (lFst (ovE nilSl) (prodE (ovE nilSl) iE)))))

@[simp] theorem SConf.get_meters (x : SConf) : SConf.l_meters.get x = x.meters := rfl

@[simp] theorem SConf.set_meters (x : SConf) (y : OV) : SConf.l_meters.set x y = { x with meters := y } := rfl

def SConf.l_mirrors : Lens eConf (ovE nilSl) 4 := lIso _ SConf.to SConf.of (fun _ => rfl) (Lens.comp (lSnd (ovE nilSl) (prodE (ovE nilSl) (prodE (ovE nilSl) (prodE (ovE nilSl) (prodE (ovE nilSl) iE))))) (Lens.comp (lSnd (ovE nilSl) (prodE (ovE nilSl) (prodE (ovE nilSl) (prodE (ovE nilSl) iE)))) (Lens.comp (lSnd (ovE nilSl) (prodE (ovE nilSl) (prodE (ovE nilSl) iE))) (Lens.comp (lSnd (ovE nilSl) (prodE (ovE nilSl) iE)) (lFst (ovE nilSl) iE)))))

@[simp] theorem SConf.get_mirrors (x : SConf) : SConf.l_mirrors.get x = x.mirrors := rfl

@[simp] theorem SConf.set_mirrors (x : SConf) (y : OV) : SConf.l_mirrors.set x y = { x with mirrors := y } := rfl

def SConf.l_default : Lens eConf iE 5 := lIso _ SConf.to SConf.of (fun _ => rfl) (Lens.comp (lSnd (ovE nilSl) (prodE (ovE nilSl) (prodE (ovE nilSl) (prodE (ovE nilSl) (prodE (ovE nilSl) iE))))) (Lens.comp (lSnd (ovE nilSl) (prodE (ovE nilSl) (prodE (ovE nilSl) (prodE (ovE nilSl) iE)))) (Lens.comp (lSnd (ovE nilSl) (prodE (ovE nilSl) (prodE (ovE nilSl) iE))) (Lens.comp (lSnd (ovE nilSl) (prodE (ovE nilSl) iE)) (Lens.comp (lSnd (ovE nilSl) iE) (Lens.id iE))))))

@[simp] theorem SConf.get_default (x : SConf) : SConf.l_default.get x = x.default := rfl

@[simp] theorem SConf.set_default (x : SConf) (y : Int) : SConf.l_default.set x y = { x with default := y } := rfl

structure SConfKnown where
  ports : OV
  routes : OV
  rules : OV
  meters : OV
  mirrors : OV

def SConfKnown.to : (OV × (OV × (OV × (OV × OV)))) → SConfKnown := fun x => ⟨x.1, x.2.1, x.2.2.1, x.2.2.2.1, x.2.2.2.2⟩

def SConfKnown.of : SConfKnown → (OV × (OV × (OV × (OV × OV)))) := fun x => (x.ports, x.routes, x.rules, x.meters, x.mirrors)

def eConfKnown : Enc SConfKnown := isoE (prodE (ovE nilMap) (prodE (ovE nilMap) (prodE (ovE nilMap) (prodE (ovE nilMap) (ovE nilMap))))) SConfKnown.to SConfKnown.of

def SConfKnown.l_ports : Lens eConfKnown (ovE nilMap) 0 := lIso _ SConfKnown.to SConfKnown.of (fun _ => rfl) (lFst (ovE nilMap) (prodE (ovE nilMap) (prodE (ovE nilMap) (prodE (ovE nilMap) (ovE nilMap)))))

@[simp] theorem SConfKnown.get_ports (x : SConfKnown) : SConfKnown.l_ports.get x = x.ports := rfl

@[simp] theorem SConfKnown.set_ports (x : SConfKnown) (y : OV) : SConfKnown.l_ports.set x y = { x with ports := y } := rfl

def SConfKnown.l_routes : Lens eConfKnown (ovE nilMap) 1 := lIso _ SConfKnown.to SConfKnown.of (fun _ => rfl) (Lens.comp (lSnd (ovE nilMap) (prodE (ovE nilMap) (prodE (ovE nilMap) (prodE (ovE nilMap) (ovE nilMap))))) (lFst (ovE nilMap) (prodE (ovE nilMap) (prodE (ovE nilMap) (ovE nilMap)))))

@[simp] theorem SConfKnown.get_routes (x : SConfKnown) : SConfKnown.l_routes.get x = x.routes := rfl

@[simp] theorem SConfKnown.set_routes (x : SConfKnown) (y : OV) : SConfKnown.l_routes.set x y = { x with routes := y } := rfl

def SConfKnown.l_rules : Lens eConfKnown (ovE nilMap) 2 := lIso _ SConfKnown.to SConfKnown.of (fun _ => rfl) (Lens.comp (lSnd (ovE nilMap) (prodE (ovE nilMap) (prodE (ovE nilMap) (prodE (ovE nilMap) (ovE nilMap))))) (Lens.comp (lSnd (ovE nilMap) (prodE (ovE nilMap) (prodE (ovE nilMap) (ovE nilMap)))) (lFst (ovE nilMap) (prodE (ovE nilMap) (ovE nilMap)))))

@[simp] theorem SConfKnown.get_rules (x : SConfKnown) : SConfKnown.l_rules.get x = x.rules := rfl

@[simp] theorem SConfKnown.set_rules (x : SConfKnown) (y : OV) : SConfKnown.l_rules.set x y = { x with rules := y } := rfl

def SConfKnown.l_meters : Lens eConfKnown (ovE nilMap) 3 := lIso _ SConfKnown.to SConfKnown.of (fun _ => rfl) (Lens.comp (lSnd (ovE nilMap) (prodE (ovE nilMap) (prodE (ovE nilMap) (prodE (ovE nilMap) (ovE nilMap))))) (Lens.comp (lSnd (ovE nilMap) (prodE (ovE nilMap) (prodE (ovE nilMap) (ovE nilMap)))) (Lens.comp (lSnd (ovE nilMap) (prodE (ovE nilMap) (ovE nilMap))) (lFst (ovE nilMap) (ovE nilMap)))))

@[simp] theorem SConfKnown.get_meters (x : SConfKnown) : SConfKnown.l_meters.get x = x.meters := rfl

@[simp] theorem SConfKnown.set_meters (x : SConfKnown) (y : OV) : SConfKnown.l_meters.set x y = { x with meters := y } := rfl

def SConfKnown.l_mirrors : Lens eConfKnown (ovE nilMap) 4 := lIso _ SConfKnown.to SConfKnown.of (fun _ => rfl) (Lens.comp (lSnd (ovE nilMap) (prodE (ovE nilMap) (prodE (ovE nilMap) (prodE (ovE nilMap) (ovE nilMap))))) (Lens.comp (lSnd (ovE nilMap) (prodE (ovE nilMap) (prodE (ovE nilMap) (ovE nilMap)))) (Lens.comp (lSnd (ovE nilMap) (prodE (ovE nilMap) (ovE nilMap))) (Lens.comp (lSnd (ovE nilMap) (ovE nilMap)) (Lens.id (ovE nilMap))))))

@[simp] theorem SConfKnown.get_mirrors (x : SConfKnown) : SConfKnown.l_mirrors.get x = x.mirrors := rfl

@[simp] theorem SConfKnown.set_mirrors (x : SConfKnown) (y : OV) : SConfKnown.l_mirrors.set x y = { x with mirrors := y } := rfl

def mapV (b : Nat) : OV := ⟨.map (some b), rfl⟩
/-- What a configuration's lists read as. -/
structure CL where
  ps : List Int
  rs : List SRoute
  us : List SRule
  ms : List SMeterConf
  xs : List SMirrorConf
structure ConfAt (w : World) (c : SConf) (l : CL) : Prop where
  ps : IsSl iE w c.ports.v l.ps
  rs : IsSl eRoute w c.routes.v l.rs
  us : IsSl eRule w c.rules.v l.us
  ms : IsSl eMeterConf w c.meters.v l.ms
  xs : IsSl eMirrorConf w c.mirrors.v l.xs
theorem ConfAt.keep0 {w w' : World} {c : SConf} {l : CL} (h : ConfAt w c l) (k : Keeps Nope w w') : ConfAt w' c l := ⟨h.ps.keep0 k, h.rs.keep0 k, h.us.keep0 k, h.ms.keep0 k, h.xs.keep0 k⟩
def portsM (l : CL) : List (Int × Int) := firstN eqd (fun p => p) l.ps l.ps.length
def routesM (l : CL) : List (SPrefix × Int) := firstN SPrefix.eqb (fun r => r.to_) l.rs l.rs.length
def rulesM (l : CL) : List (ByteArray × Int) := firstN eqs (fun r => r.name) l.us l.us.length
def metersM (l : CL) : List (ByteArray × Int) := firstN eqs (fun r => r.name) l.ms l.ms.length
def mirrorsM (l : CL) : List (ByteArray × Int) := firstN eqs (fun r => r.name) l.xs l.xs.length
structure KB where
  b1 : Nat
  b2 : Nat
  b3 : Nat
  b4 : Nat
  b5 : Nat
def KB.k (x : KB) : SConfKnown := ⟨mapV x.b1, mapV x.b2, mapV x.b3, mapV x.b4, mapV x.b5⟩
def KB.R (x : KB) (l : CL) : List Res := [MapR x.b5 sE iE (mirrorsM l), MapR x.b4 sE iE (metersM l), MapR x.b3 sE iE (rulesM l), MapR x.b2 ePrefix iE (routesM l), MapR x.b1 iE iE (portsM l)]

theorem of1 (a : Int) (w : World) : Calls Tryz.prog 106 #[iE.val a] w (RetV w (iE.val (a))) := by
  refine enter0 4 Tryz.func106 rfl rfl (Nat.le_of_ble_eq_true rfl) ?_
  refine seq (region (cons (opv (Ev.assign (.c (v := I 0) rfl)) ?_)))
  refine nil (pN (seq (region (cons (opv (Ev.move (.t rfl)) (cons (opv (Ev.assign (.t rfl)) (nil (pN (ret (done rfl (.tmp rfl .nil) (retE ?_))))))))))))
  rfl

theorem of1_at (M : Nat → Prop) (w : World) : FnAt Tryz.prog 106 [] M w iE iE (fun _ => True) (fun a => a) := fun a w _ _ => of1 a w

theorem z50 : (Tryz.prog.info? 50).bind (·.zero) = some (ePrefix.val ePrefix.zero) := by kernel_rfl

theorem of2 (a : SRoute) (w : World) : Calls Tryz.prog 108 #[eRoute.val a] w (RetV w (ePrefix.val (a.to_))) := by
  refine enter0 5 Tryz.func108 rfl rfl (Nat.le_of_ble_eq_true rfl) ?_
  refine seq (region (cons (box (E := eRoute) (.t rfl) (fun b1 => ?_))))
  refine cons (alloc z50 (fun b2 => ?_))
  refine nil (pN (seq (region (cons (opv (Ev.fieldAddr (o := 0) (.t rfl) (by kernel_rfl)) ?_)))))
  refine cons (opv (Ev.load (xv := a.to_) ty50 (.t rfl) (ptsVar (by repeat first | exact mH | apply mT | apply mA) SRoute.l_to_)) ?_)
  refine cons (stv ty50 (Lens.id _) (.t rfl) (.t rfl) ?_)
  refine nil (pN (ret (done rfl (.cell rfl (fun w I => run_loadVar_pts ty50 (ptsVar (by repeat first | exact mH | apply mT | apply mA) (Lens.id _) w I)) .nil) (retE ?_))))
  rfl

theorem of2_at (M : Nat → Prop) (w : World) : FnAt Tryz.prog 108 [] M w eRoute ePrefix (fun _ => True) (fun a => a.to_) := fun a w _ _ => of2 a w

theorem of3 (a : SRule) (w : World) : Calls Tryz.prog 109 #[eRule.val a] w (RetV w (sE.val (a.name))) := by
  refine enter0 5 Tryz.func109 rfl rfl (Nat.le_of_ble_eq_true rfl) ?_
  refine seq (region (cons (box (E := eRule) (.t rfl) (fun b1 => ?_))))
  refine cons (opv (Ev.assign (.c (v := (Go.Value.string (ByteArray.mk #[]))) rfl)) ?_)
  refine nil (pN (seq (region (cons (opv (Ev.fieldAddr (o := 0) (.t rfl) (by kernel_rfl)) ?_)))))
  refine cons (opv (Ev.load (xv := a.name) ty9 (.t rfl) (ptsVar (by repeat first | exact mH | apply mT | apply mA) SRule.l_name)) ?_)
  refine cons (opv (Ev.assign (.t rfl)) (nil (pN (ret (done rfl (.tmp rfl .nil) (retE ?_))))))
  rfl

theorem of3_at (M : Nat → Prop) (w : World) : FnAt Tryz.prog 109 [] M w eRule sE (fun _ => True) (fun a => a.name) := fun a w _ _ => of3 a w

theorem of4 (a : SMeterConf) (w : World) : Calls Tryz.prog 111 #[eMeterConf.val a] w (RetV w (sE.val (a.name))) := by
  refine enter0 5 Tryz.func111 rfl rfl (Nat.le_of_ble_eq_true rfl) ?_
  refine seq (region (cons (box (E := eMeterConf) (.t rfl) (fun b1 => ?_))))
  refine cons (opv (Ev.assign (.c (v := (Go.Value.string (ByteArray.mk #[]))) rfl)) ?_)
  refine nil (pN (seq (region (cons (opv (Ev.fieldAddr (o := 0) (.t rfl) (by kernel_rfl)) ?_)))))
  refine cons (opv (Ev.load (xv := a.name) ty9 (.t rfl) (ptsVar (by repeat first | exact mH | apply mT | apply mA) SMeterConf.l_name)) ?_)
  refine cons (opv (Ev.assign (.t rfl)) (nil (pN (ret (done rfl (.tmp rfl .nil) (retE ?_))))))
  rfl

theorem of4_at (M : Nat → Prop) (w : World) : FnAt Tryz.prog 111 [] M w eMeterConf sE (fun _ => True) (fun a => a.name) := fun a w _ _ => of4 a w

theorem of5 (a : SMirrorConf) (w : World) : Calls Tryz.prog 113 #[eMirrorConf.val a] w (RetV w (sE.val (a.name))) := by
  refine enter0 5 Tryz.func113 rfl rfl (Nat.le_of_ble_eq_true rfl) ?_
  refine seq (region (cons (box (E := eMirrorConf) (.t rfl) (fun b1 => ?_))))
  refine cons (opv (Ev.assign (.c (v := (Go.Value.string (ByteArray.mk #[]))) rfl)) ?_)
  refine nil (pN (seq (region (cons (opv (Ev.fieldAddr (o := 0) (.t rfl) (by kernel_rfl)) ?_)))))
  refine cons (opv (Ev.load (xv := a.name) ty9 (.t rfl) (ptsVar (by repeat first | exact mH | apply mT | apply mA) SMirrorConf.l_name)) ?_)
  refine cons (opv (Ev.assign (.t rfl)) (nil (pN (ret (done rfl (.tmp rfl .nil) (retE ?_))))))
  rfl

theorem of5_at (M : Nat → Prop) (w : World) : FnAt Tryz.prog 113 [] M w eMirrorConf sE (fun _ => True) (fun a => a.name) := fun a w _ _ => of5 a w

theorem en106 : Gx.Enters Tryz.prog 106 := Gx.Enters.mk' (by kernel_rfl)

theorem en108 : Gx.Enters Tryz.prog 108 := Gx.Enters.mk' (by kernel_rfl)

theorem en109 : Gx.Enters Tryz.prog 109 := Gx.Enters.mk' (by kernel_rfl)

theorem en111 : Gx.Enters Tryz.prog 111 := Gx.Enters.mk' (by kernel_rfl)

theorem en113 : Gx.Enters Tryz.prog 113 := Gx.Enters.mk' (by kernel_rfl)

theorem z84 : (Tryz.prog.info? 84).bind (·.zero) = some (eConfKnown.val eConfKnown.zero) := by kernel_rfl

theorem ty22 : TyOK Tryz.prog 22 (ovE nilSl) := TyOK.mk' (by kernel_rfl) (by kernel_rfl)

theorem ty23 : TyOK Tryz.prog 23 (ovE nilSl) := TyOK.mk' (by kernel_rfl) (by kernel_rfl)

theorem ty24 : TyOK Tryz.prog 24 (ovE nilSl) := TyOK.mk' (by kernel_rfl) (by kernel_rfl)

theorem ty25 : TyOK Tryz.prog 25 (ovE nilSl) := TyOK.mk' (by kernel_rfl) (by kernel_rfl)

theorem ty26 : TyOK Tryz.prog 26 (ovE nilSl) := TyOK.mk' (by kernel_rfl) (by kernel_rfl)

theorem en105 : Gx.Enters Tryz.prog 105 := Gx.Enters.mk' (by kernel_rfl)

theorem en107 : Gx.Enters Tryz.prog 107 := Gx.Enters.mk' (by kernel_rfl)

theorem en97 : Gx.Enters Tryz.prog 97 := Gx.Enters.mk' (by kernel_rfl)

theorem en110 : Gx.Enters Tryz.prog 110 := Gx.Enters.mk' (by kernel_rfl)

theorem en112 : Gx.Enters Tryz.prog 112 := Gx.Enters.mk' (by kernel_rfl)

theorem ty84 : TyOK Tryz.prog 84 eConfKnown := TyOK.mk' (by kernel_rfl) (by kernel_rfl)

theorem of_ok (c : SConf) (l : CL) (w : World) (hc : ConfAt w c l) : Calls Tryz.prog 36 #[eConf.val c] w (RetN w (fun _ : KB => True) (fun x => eConfKnown.val x.k) (fun x => x.R l)) := by
  refine enter0 19 Tryz.func36 rfl rfl (Nat.le_of_ble_eq_true rfl) ?_
  refine seq (region (cons (box (E := eConf) (.t rfl) (fun b1 => ?_))))
  refine cons (alloc z84 (fun b2 => ?_))
  refine nil (pN (seq (drawS 2 rfl (by repeat first | exact Rem.head | apply Rem.tail) (by kernel_rfl) ?_)))
  refine tk 0 rfl (Ev.fieldAddr (o := 0) (.t rfl) (by kernel_rfl)) ?_
  refine tk 1 rfl (Ev.load (xv := c.ports) ty22 (.t rfl) (ptsVar (by repeat first | exact mH | apply mT | apply mA) SConf.l_ports)) ?_
  refine tk 3 rfl (Ev.fieldAddr (o := 1) (.t rfl) (by kernel_rfl)) ?_
  refine tk 4 rfl (Ev.load (xv := c.routes) ty23 (.t rfl) (ptsVar (by repeat first | exact mH | apply mT | apply mA) SConf.l_routes)) ?_
  refine tk 6 rfl (Ev.fieldAddr (o := 2) (.t rfl) (by kernel_rfl)) ?_
  refine tk 7 rfl (Ev.load (xv := c.rules) ty24 (.t rfl) (ptsVar (by repeat first | exact mH | apply mT | apply mA) SConf.l_rules)) ?_
  refine tk 9 rfl (Ev.fieldAddr (o := 3) (.t rfl) (by kernel_rfl)) ?_
  refine tk 10 rfl (Ev.load (xv := c.meters) ty25 (.t rfl) (ptsVar (by repeat first | exact mH | apply mT | apply mA) SConf.l_meters)) ?_
  refine tk 12 rfl (Ev.fieldAddr (o := 4) (.t rfl) (by kernel_rfl)) ?_
  refine tk 13 rfl (Ev.load (xv := c.mirrors) ty26 (.t rfl) (ptsVar (by repeat first | exact mH | apply mT | apply mA) SConf.l_mirrors)) ?_
  refine al1 2 rfl ((calln (X := Nat) (fun _ => True) (fun b => (mapV b).v) (fun b => [MapR b iE iE (firstN eqd (fun a : Int => a) l.ps l.ps.length)]) en105 (.cons (.t rfl) (.cons .f .nil)) (fun w I => first_3_3 106 [] _ _ l.ps w en106 (hc.keep0 I.keeps).ps (of1_at _ _)) (fun n1 _ => ?_)))
  refine hdn (al1 5 rfl ((calln (X := Nat) (fun _ => True) (fun b => (mapV b).v) (fun b => [MapR b ePrefix iE (firstN SPrefix.eqb (fun a : SRoute => a.to_) l.rs l.rs.length)]) en107 (.cons (.t rfl) (.cons .f .nil)) (fun w I => first_50_52 108 [] _ _ l.rs w en108 (hc.keep0 I.keeps).rs (of2_at _ _)) (fun n2 _ => ?_))))
  refine hdn (al1 8 rfl ((calln (X := Nat) (fun _ => True) (fun b => (mapV b).v) (fun b => [MapR b sE iE (firstN eqs (fun a : SRule => a.name) l.us l.us.length)]) en97 (.cons (.t rfl) (.cons .f .nil)) (fun w I => first_9_76 109 [] _ _ l.us w en109 (hc.keep0 I.keeps).us (of3_at _ _)) (fun n3 _ => ?_))))
  refine hdn (al1 11 rfl ((calln (X := Nat) (fun _ => True) (fun b => (mapV b).v) (fun b => [MapR b sE iE (firstN eqs (fun a : SMeterConf => a.name) l.ms l.ms.length)]) en110 (.cons (.t rfl) (.cons .f .nil)) (fun w I => first_9_57 111 [] _ _ l.ms w en111 (hc.keep0 I.keeps).ms (of4_at _ _)) (fun n4 _ => ?_))))
  refine hdn (al1 14 rfl ((calln (X := Nat) (fun _ => True) (fun b => (mapV b).v) (fun b => [MapR b sE iE (firstN eqs (fun a : SMirrorConf => a.name) l.xs l.xs.length)]) en112 (.cons (.t rfl) (.cons .f .nil)) (fun w I => first_9_59 113 [] _ _ l.xs w en113 (hc.keep0 I.keeps).xs (of5_at _ _)) (fun n5 _ => ?_))))
  refine hdn (tk 15 rfl (Ev.buildS (fs := _) (places := [(0, 1), (1, 1), (2, 1), (3, 1), (4, 1)]) z84 rfl Tryz.underlying84 (by kernel_rfl) (.cons (.t rfl) (.cons (.t rfl) (.cons (.t rfl) (.cons (.t rfl) (.cons (.t rfl) .nil))))) (Fills.cons SConfKnown.l_ports rfl (Fills.cons SConfKnown.l_routes rfl (Fills.cons SConfKnown.l_rules rfl (Fills.cons SConfKnown.l_meters rfl (Fills.cons SConfKnown.l_mirrors rfl Fills.nil)))))) ?_)
  refine al1 16 rfl ((stv ty84 (Lens.id _) (.t rfl) (.t rfl) ?_))
  refine hdn (ovr (pN (ret (done rfl (.cell rfl (fun w I => run_loadVar_pts ty84 (ptsVar (by repeat first | exact mH | apply mT | apply mA) (Lens.id _) w I)) .nil) (fun w I => ?_)))))
  exact retN (⟨n1, n2, n3, n4, n5⟩ : KB) trivial rfl (by exact (by repeat first | exact sR | exact sN | apply sC | apply sS | apply sA)) w I
end Go.Proofs.YtnoobdijbpmjkaaGreat
