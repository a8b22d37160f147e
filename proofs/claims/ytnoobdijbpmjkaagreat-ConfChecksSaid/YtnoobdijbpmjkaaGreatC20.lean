/- conf -/
import Derived.Test.YtnoobdijbpmjkaaGreatC19
set_option linter.unusedVariables false
set_option linter.unusedSimpArgs false
namespace Go.Proofs.YtnoobdijbpmjkaaGreat
open Go Go.Gx

structure SChange where
  kind : Int
  port : Int
  route : SRoute
  meter : SMeterConf
  mirror : SMirrorConf
  rules : OV
  default : Int

def SChange.to : (Int × (Int × (SRoute × (SMeterConf × (SMirrorConf × (OV × Int)))))) → SChange := fun x => ⟨x.1, x.2.1, x.2.2.1, x.2.2.2.1, x.2.2.2.2.1, x.2.2.2.2.2.1, x.2.2.2.2.2.2⟩

def SChange.of : SChange → (Int × (Int × (SRoute × (SMeterConf × (SMirrorConf × (OV × Int)))))) := fun x => (x.kind, x.port, x.route, x.meter, x.mirror, x.rules, x.default)

def eChange : Enc SChange := isoE (prodE iE (prodE iE (prodE eRoute (prodE eMeterConf (prodE eMirrorConf (prodE (ovE nilSl) iE)))))) SChange.to SChange.of

def SChange.l_kind : Lens eChange iE 0 := lIso _ SChange.to SChange.of (fun _ => rfl) (lFst iE (prodE iE (prodE eRoute (prodE eMeterConf (prodE eMirrorConf (prodE (ovE nilSl) iE))))))

@[simp] theorem SChange.get_kind (x : SChange) : SChange.l_kind.get x = x.kind := rfl

@[simp] theorem SChange.set_kind (x : SChange) (y : Int) : SChange.l_kind.set x y = { x with kind := y } := rfl

def SChange.l_port : Lens eChange iE 1 := lIso _ SChange.to SChange.of (fun _ => rfl) (Lens.comp (lSnd iE (prodE iE (prodE eRoute (prodE eMeterConf (prodE eMirrorConf (prodE (ovE nilSl) iE)))))) (lFst iE (prodE eRoute (prodE eMeterConf (prodE eMirrorConf (prodE (ovE nilSl) iE))))))

@[simp] theorem SChange.get_port (x : SChange) : SChange.l_port.get x = x.port := rfl

@[simp] theorem SChange.set_port (x : SChange) (y : Int) : SChange.l_port.set x y = { x with port := y } := rfl

def SChange.l_route : Lens eChange eRoute 2 := lIso _ SChange.to SChange.of (fun _ => rfl) (Lens.comp (lSnd iE (prodE iE (prodE eRoute (prodE eMeterConf (prodE eMirrorConf (prodE (ovE nilSl) iE)))))) (Lens.comp (lSnd iE (prodE eRoute (prodE eMeterConf (prodE eMirrorConf (prodE (ovE nilSl) iE))))) (lFst eRoute (prodE eMeterConf (prodE eMirrorConf (prodE (ovE nilSl) iE))))))

@[simp] theorem SChange.get_route (x : SChange) : SChange.l_route.get x = x.route := rfl

@[simp] theorem SChange.set_route (x : SChange) (y : SRoute) : SChange.l_route.set x y = { x with route := y } := rfl

def SChange.l_meter : Lens eChange eMeterConf 21 := lIso _ SChange.to SChange.of (fun _ => rfl) (Lens.comp (lSnd iE (prodE iE (prodE eRoute (prodE eMeterConf (prodE eMirrorConf (prodE (ovE nilSl) iE)))))) (Lens.comp (lSnd iE (prodE eRoute (prodE eMeterConf (prodE eMirrorConf (prodE (ovE nilSl) iE))))) (Lens.comp (lSnd eRoute (prodE eMeterConf (prodE eMirrorConf (prodE (ovE nilSl) iE)))) (lFst eMeterConf (prodE eMirrorConf (prodE (ovE nilSl) iE))))))

@[simp] theorem SChange.get_meter (x : SChange) : SChange.l_meter.get x = x.meter := rfl

@[simp] theorem SChange.set_meter (x : SChange) (y : SMeterConf) : SChange.l_meter.set x y = { x with meter := y } := rfl

def SChange.l_mirror : Lens eChange eMirrorConf 25 := lIso _ SChange.to SChange.of (fun _ => rfl) (Lens.comp (lSnd iE (prodE iE (prodE eRoute (prodE eMeterConf (prodE eMirrorConf (prodE (ovE nilSl) iE)))))) (Lens.comp (lSnd iE (prodE eRoute (prodE eMeterConf (prodE eMirrorConf (prodE (ovE nilSl) iE))))) (Lens.comp (lSnd eRoute (prodE eMeterConf (prodE eMirrorConf (prodE (ovE nilSl) iE)))) (Lens.comp (lSnd eMeterConf (prodE eMirrorConf (prodE (ovE nilSl) iE))) (lFst eMirrorConf (prodE (ovE nilSl) iE))))))

@[simp] theorem SChange.get_mirror (x : SChange) : SChange.l_mirror.get x = x.mirror := rfl

@[simp] theorem SChange.set_mirror (x : SChange) (y : SMirrorConf) : SChange.l_mirror.set x y = { x with mirror := y } := rfl

def SChange.l_rules : Lens eChange (ovE nilSl) 28 := lIso _ SChange.to SChange.of (fun _ => rfl) (Lens.comp (lSnd iE (prodE iE (prodE eRoute (prodE eMeterConf (prodE eMirrorConf (prodE (ovE nilSl) iE)))))) (Lens.comp (lSnd iE (prodE eRoute (prodE eMeterConf (prodE eMirrorConf (prodE (ovE nilSl) iE))))) (Lens.comp (lSnd eRoute (prodE eMeterConf (prodE eMirrorConf (prodE (ovE nilSl) iE)))) (Lens.comp (lSnd eMeterConf (prodE eMirrorConf (prodE (ovE nilSl) iE))) (Lens.comp (lSnd eMirrorConf (prodE (ovE nilSl) iE)) (lFst (ovE nilSl) iE))))))

@[simp] theorem SChange.get_rules (x : SChange) : SChange.l_rules.get x = x.rules := rfl

@[simp] theorem SChange.set_rules (x : SChange) (y : OV) : SChange.l_rules.set x y = { x with rules := y } := rfl

def SChange.l_default : Lens eChange iE 29 := lIso _ SChange.to SChange.of (fun _ => rfl) (Lens.comp (lSnd iE (prodE iE (prodE eRoute (prodE eMeterConf (prodE eMirrorConf (prodE (ovE nilSl) iE)))))) (Lens.comp (lSnd iE (prodE eRoute (prodE eMeterConf (prodE eMirrorConf (prodE (ovE nilSl) iE))))) (Lens.comp (lSnd eRoute (prodE eMeterConf (prodE eMirrorConf (prodE (ovE nilSl) iE)))) (Lens.comp (lSnd eMeterConf (prodE eMirrorConf (prodE (ovE nilSl) iE))) (Lens.comp (lSnd eMirrorConf (prodE (ovE nilSl) iE)) (Lens.comp (lSnd (ovE nilSl) iE) (Lens.id iE)))))))

@[simp] theorem SChange.get_default (x : SChange) : SChange.l_default.get x = x.default := rfl

@[simp] theorem SChange.set_default (x : SChange) (y : Int) : SChange.l_default.set x y = { x with default := y } := rfl

def KnR (x : KB) (l : CL) : Res := Sep (MapR x.b5 sE iE (mirrorsM l)) (Sep (MapR x.b4 sE iE (metersM l)) (Sep (MapR x.b3 sE iE (rulesM l)) (Sep (MapR x.b2 ePrefix iE (routesM l)) (MapR x.b1 iE iE (portsM l)))))
theorem known_in {K : Ctx} {F : Fr} {L : List Res} {X : Act → World → Prop} {x : KB} {l : CL} (next : Sat K X F (KnR x l :: L)) : Sat K X F (x.R l ++ L) := fun a w G => by
  have h1 : WInv K (MapR x.b5 sE iE (mirrorsM l) :: MapR x.b4 sE iE (metersM l) :: MapR x.b3 sE iE (rulesM l) :: MapR x.b2 ePrefix iE (routesM l) :: MapR x.b1 iE iE (portsM l) :: L) w := G.inv
  have h2 := (h1.perm (L' := MapR x.b2 ePrefix iE (routesM l) :: MapR x.b1 iE iE (portsM l) :: MapR x.b3 sE iE (rulesM l) :: MapR x.b4 sE iE (metersM l) :: MapR x.b5 sE iE (mirrorsM l) :: L) (by
    have : (MapR x.b5 sE iE (mirrorsM l) :: MapR x.b4 sE iE (metersM l) :: MapR x.b3 sE iE (rulesM l) :: MapR x.b2 ePrefix iE (routesM l) :: MapR x.b1 iE iE (portsM l) :: L) = [MapR x.b5 sE iE (mirrorsM l), MapR x.b4 sE iE (metersM l), MapR x.b3 sE iE (rulesM l), MapR x.b2 ePrefix iE (routesM l), MapR x.b1 iE iE (portsM l)] ++ L := rfl
    rw [this]
    refine List.Perm.append_right L (l₁ := [MapR x.b2 ePrefix iE (routesM l), MapR x.b1 iE iE (portsM l), MapR x.b3 sE iE (rulesM l), MapR x.b4 sE iE (metersM l), MapR x.b5 sE iE (mirrorsM l)]) ?_
    generalize MapR x.b5 sE iE (mirrorsM l) = e
    generalize MapR x.b4 sE iE (metersM l) = d
    generalize MapR x.b3 sE iE (rulesM l) = c
    refine List.Perm.trans (List.perm_append_comm (l₁ := [_, _]) (l₂ := [c, d, e])) ?_
    refine List.Perm.trans ?_ (List.Perm.append_right _ (l₁ := [e, d, c]) (l₂ := [e, d, c]) (List.Perm.refl _))
    exact List.Perm.append_right [_, _] (l₁ := [c, d, e]) (l₂ := [e, d, c]) (List.reverse_perm [e, d, c]))).sepIn
  have h3 := (h2.perm (List.Perm.swap _ _ _)).sepIn
  have h4 := (h3.perm (List.Perm.swap _ _ _)).sepIn
  have h5 := (h4.perm (List.Perm.swap _ _ _)).sepIn
  exact next a w (G.world h5)
theorem known_of {K : Ctx} {L : List Res} {x : KB} {l : CL} (hm : KnR x l ∈ L) (w : World) (I : WInv K L w) : KnownAt w x l := by
  obtain ⟨a5, ⟨a4, ⟨a3, ⟨a2, a1, _⟩, _⟩, _⟩, _⟩ := (I.own _ hm).1
  exact ⟨a1, a2, a3, a4, a5⟩
/-- Where changes are told to: what tells, the list's variable, the list. -/
abbrev OR (ob : Nat) (o : OV) (l : List SChange) : Res := Sep (Var ob (ovE nilSl) o 41) (OwnS o.v eChange l 61)
abbrev DR (pb ob : Nat) (o : OV) (l : List SChange) : Res := Sep (Var pb (ovE nilFn) (clo 63 [.pointer (some ⟨ob, 0, none⟩)]) 113) (OR ob o l)
def goneL {α κ : Type} (q : κ → κ → Bool) (f : α → κ) (m : List (κ × Int)) (mk : α → SChange) (l : List α) : List SChange := (l.filter (fun x => (findV q (f x) m).isNone)).map mk
theorem goneL_step {α κ : Type} (q : κ → κ → Bool) (f : α → κ) (m : List (κ × Int)) (mk : α → SChange) (l : List α) (z : α) {i : Int} (h : 0 ≤ i ∧ i < l.length) : goneL q f m mk (l.take (i + 1).toNat) = goneL q f m mk (l.take i.toNat) ++ (if (findV q (f (l.getD i.toNat z)) m).isNone then [mk (l.getD i.toNat z)] else []) := by
  rw [take_snoc l i h.1 h.2 z]
  unfold goneL
  rw [List.filter_append, List.map_append]
  congr 1
  rw [List.filter_cons, List.filter_nil]
  cases (findV q (f (l.getD i.toNat z)) m).isNone <;> simp
theorem goneL_len {α κ : Type} (q : κ → κ → Bool) (f : α → κ) (m : List (κ × Int)) (mk : α → SChange) (l : List α) : (goneL q f m mk l).length ≤ l.length := by
  unfold goneL
  rw [List.length_map]
  exact List.length_filter_le _ _
def chPort (k : Int) (x : Int) : SChange := { eChange.zero with kind := k, port := x }
def chRoute (k : Int) (x : SRoute) : SChange := { eChange.zero with kind := k, route := x }
def chMeter (k : Int) (x : SMeterConf) : SChange := { eChange.zero with kind := k, meter := x }
def chMirror (k : Int) (x : SMirrorConf) : SChange := { eChange.zero with kind := k, mirror := x }
def onlyR (x : SRoute) : SRoute := { eRoute.zero with to_ := x.to_ }
def onlyM (x : SMeterConf) : SMeterConf := { eMeterConf.zero with name := x.name }
def onlyX (x : SMirrorConf) : SMirrorConf := { eMirrorConf.zero with name := x.name }
def chRules (x : OV) : SChange := { eChange.zero with kind := 9, rules := x }
def chDefault (x : Int) : SChange := { eChange.zero with kind := 10, default := x }

theorem ty41 : TyOK Tryz.prog 41 (ovE nilSl) := TyOK.mk' (by kernel_rfl) (by kernel_rfl)

theorem ty61 : TyOK Tryz.prog 61 eChange := TyOK.mk' (by kernel_rfl) (by kernel_rfl)

theorem z61 : (Tryz.prog.info? 61).bind (·.zero) = some (eChange.val eChange.zero) := by kernel_rfl

theorem zb61 : (Tryz.prog.info? 61).map (fun i => (i.zero, i.bytes)) = some (some (eChange.val eChange.zero), 160) := by kernel_rfl

theorem zs61 : (eChange.val eChange.zero).cells.size = eChange.size := by rw [Enc.cells_val, List.size_toArray, Enc.len]

theorem put_ok (c : SChange) (ob : Nat) (o : OV) (l : List SChange) (w : World) (h : At (OR ob o l) w) (hl : l.length < 100000) : Calls Tryz.prog 63 #[eChange.val c, .pointer (some ⟨ob, 0, none⟩)] w (RetR w (OR ob o l) (fun _ : OV => True) (fun _ => .tuple #[]) (fun o2 => OR ob o2 (l ++ [c]))) := by
  refine enter (OR ob o l).foot 7 [OR ob o l] Tryz.func63 rfl rfl (Nat.le_of_ble_eq_true rfl) (start_at h) ?_
  refine sepOut Rem.head ?_
  refine seq (region (cons (box (E := eChange) (.t rfl) (fun b1 => ?_))))
  refine nil (pN (region (cons (opv (Ev.ldv ty41 (.t rfl) (Lens.id _)) ?_))))
  refine cons (opv (Ev.ldv ty61 (.t rfl) (Lens.id _)) ?_)
  refine cons (buildSlice (E := eChange) Tryz.underlying41 ty61 z61 (.cons (.t rfl) .nil) rfl rfl (fun v2 => ?_))
  refine cons (append (E := eChange) Tryz.underlying41 ty61 rfl zb61 zs61 (.t rfl) (.t rfl) (fun _ => by repeat first | exact Upd.head | apply Upd.tail | apply Upd.right) (by first | exact isSl_own (by repeat first | exact mH | apply mT | apply mA) | exact fun w I => IsSl.keep0 (by assumption) I.keeps) (⟨by (show _ ≤ 9223372036854775807); simp only [List.length_cons, List.length_nil]; omega, by simp only [List.length_cons, List.length_nil]; omega⟩) (fun v3 => ?_))
  refine cons (stv ty41 (Lens.id _) (.t rfl) (.t rfl) ?_)
  refine nil (done' rfl .nil (fun w I => ?_))
  exact retR (r' := fun o2 => OR ob o2 (l ++ [c])) _ trivial rfl (List.mem_singleton_self _) w (WInv.sepIn (I.sub (by repeat first | exact sR | exact sN | apply sC | apply sS | apply sA)))

theorem en63 : Gx.Enters Tryz.prog 63 := Gx.Enters.mk' (by kernel_rfl)

theorem ty113 : TyOK Tryz.prog 113 (ovE nilFn) := TyOK.mk' (by kernel_rfl) (by kernel_rfl)

theorem tell2 (pb ob : Nat) (x : Int) (o : OV) (l : List SChange) (w : World) (h : At (DR pb ob o l) w) (hl : l.length < 100000) : Calls Tryz.prog 66 #[iE.val x, .pointer (some ⟨pb, 0, none⟩)] w (RetR w (DR pb ob o l) (fun _ : OV => True) (fun _ => .tuple #[]) (fun o2 => DR pb ob o2 (l ++ [chPort 1 x]))) := by
  refine enter (DR pb ob o l).foot 7 [DR pb ob o l] Tryz.func66 rfl rfl (Nat.le_of_ble_eq_true rfl) (start_at h) ?_
  refine sepOut Rem.head ?_
  refine region (cons (opv (Ev.ldv ty113 (.t rfl) (Lens.id _)) ?_))
  refine cons (opv (Ev.move (.t rfl)) (cons (opv (Ev.buildS (fs := _) (places := [(0, 1), (1, 1), (2, 19), (21, 4), (25, 3), (28, 1), (29, 1)]) z61 rfl Tryz.underlying61 (by kernel_rfl) (.cons (.c (v := I 1) rfl) (.cons (.t rfl) .nil)) (Fills.cons SChange.l_kind rfl (Fills.cons SChange.l_port rfl Fills.nil))) ?_)))
  refine cons (callcr (X := OV) (r := OR ob o l) (r' := fun o2 => OR ob o2 (l ++ [chPort 1 x])) (fun _ => True) (fun _ => .tuple #[]) (fun _ => by repeat first | exact Upd.head | apply Upd.tail | apply Upd.right) (.t rfl) en63 (.cons (.t rfl) .nil) (fun w I => put_ok (chPort 1 x) ob o l w (at_mem (by repeat first | exact mH | apply mT | apply mA) w I) hl) (fun o3 _ => ?_))
  refine nil (done' rfl .nil (fun w I => ?_))
  exact retR (r' := fun o2 => DR pb ob o2 (l ++ [chPort 1 x])) _ trivial rfl (List.mem_singleton_self _) w (WInv.sepIn (I.subP (by repeat first | exact SubP.nil | refine SubP.cons (by repeat first | exact Rem.head | apply Rem.tail) ?_)))

theorem tell2_at (pb ob : Nat) : TellL Tryz.prog 66 [.pointer (some ⟨pb, 0, none⟩)] 100000 iE (DR pb ob) (fun _ => True) (fun x => chPort 1 x) := fun x o l w _ hl h => tell2 pb ob x o l w h hl

theorem tell3 (pb ob : Nat) (x : SMeterConf) (o : OV) (l : List SChange) (w : World) (h : At (DR pb ob o l) w) (hl : l.length < 100000) : Calls Tryz.prog 70 #[eMeterConf.val x, .pointer (some ⟨pb, 0, none⟩)] w (RetR w (DR pb ob o l) (fun _ : OV => True) (fun _ => .tuple #[]) (fun o2 => DR pb ob o2 (l ++ [chMeter 5 x]))) := by
  refine enter (DR pb ob o l).foot 7 [DR pb ob o l] Tryz.func70 rfl rfl (Nat.le_of_ble_eq_true rfl) (start_at h) ?_
  refine sepOut Rem.head ?_
  refine seq (region (cons (box (E := eMeterConf) (.t rfl) (fun b1 => ?_))))
  refine nil (pN (region (cons (opv (Ev.ldv ty113 (.t rfl) (Lens.id _)) ?_))))
  refine cons (opv (Ev.load (xv := x) ty57 (.t rfl) (ptsVar (by repeat first | exact mH | apply mT | apply mA) (Lens.id _))) ?_)
  refine cons (opv (Ev.buildS (fs := _) (places := [(0, 1), (1, 1), (2, 19), (21, 4), (25, 3), (28, 1), (29, 1)]) z61 rfl Tryz.underlying61 (by kernel_rfl) (.cons (.c (v := I 5) rfl) (.cons (.t rfl) .nil)) (Fills.cons SChange.l_kind rfl (Fills.cons SChange.l_meter rfl Fills.nil))) ?_)
  refine cons (callcr (X := OV) (r := OR ob o l) (r' := fun o2 => OR ob o2 (l ++ [chMeter 5 x])) (fun _ => True) (fun _ => .tuple #[]) (fun _ => by repeat first | exact Upd.head | apply Upd.tail | apply Upd.right) (.t rfl) en63 (.cons (.t rfl) .nil) (fun w I => put_ok (chMeter 5 x) ob o l w (at_mem (by repeat first | exact mH | apply mT | apply mA) w I) hl) (fun o3 _ => ?_))
  refine nil (done' rfl .nil (fun w I => ?_))
  exact retR (r' := fun o2 => DR pb ob o2 (l ++ [chMeter 5 x])) _ trivial rfl (List.mem_singleton_self _) w (WInv.sepIn (I.subP (by repeat first | exact SubP.nil | refine SubP.cons (by repeat first | exact Rem.head | apply Rem.tail) ?_)))

theorem tell3_at (pb ob : Nat) : TellL Tryz.prog 70 [.pointer (some ⟨pb, 0, none⟩)] 100000 eMeterConf (DR pb ob) (fun _ => True) (fun x => chMeter 5 x) := fun x o l w _ hl h => tell3 pb ob x o l w h hl

theorem tell4 (pb ob : Nat) (x : SMirrorConf) (o : OV) (l : List SChange) (w : World) (h : At (DR pb ob o l) w) (hl : l.length < 100000) : Calls Tryz.prog 74 #[eMirrorConf.val x, .pointer (some ⟨pb, 0, none⟩)] w (RetR w (DR pb ob o l) (fun _ : OV => True) (fun _ => .tuple #[]) (fun o2 => DR pb ob o2 (l ++ [chMirror 7 x]))) := by
  refine enter (DR pb ob o l).foot 7 [DR pb ob o l] Tryz.func74 rfl rfl (Nat.le_of_ble_eq_true rfl) (start_at h) ?_
  refine sepOut Rem.head ?_
  refine seq (region (cons (box (E := eMirrorConf) (.t rfl) (fun b1 => ?_))))
  refine nil (pN (region (cons (opv (Ev.ldv ty113 (.t rfl) (Lens.id _)) ?_))))
  refine cons (opv (Ev.load (xv := x) ty59 (.t rfl) (ptsVar (by repeat first | exact mH | apply mT | apply mA) (Lens.id _))) ?_)
  refine cons (opv (Ev.buildS (fs := _) (places := [(0, 1), (1, 1), (2, 19), (21, 4), (25, 3), (28, 1), (29, 1)]) z61 rfl Tryz.underlying61 (by kernel_rfl) (.cons (.c (v := I 7) rfl) (.cons (.t rfl) .nil)) (Fills.cons SChange.l_kind rfl (Fills.cons SChange.l_mirror rfl Fills.nil))) ?_)
  refine cons (callcr (X := OV) (r := OR ob o l) (r' := fun o2 => OR ob o2 (l ++ [chMirror 7 x])) (fun _ => True) (fun _ => .tuple #[]) (fun _ => by repeat first | exact Upd.head | apply Upd.tail | apply Upd.right) (.t rfl) en63 (.cons (.t rfl) .nil) (fun w I => put_ok (chMirror 7 x) ob o l w (at_mem (by repeat first | exact mH | apply mT | apply mA) w I) hl) (fun o3 _ => ?_))
  refine nil (done' rfl .nil (fun w I => ?_))
  exact retR (r' := fun o2 => DR pb ob o2 (l ++ [chMirror 7 x])) _ trivial rfl (List.mem_singleton_self _) w (WInv.sepIn (I.subP (by repeat first | exact SubP.nil | refine SubP.cons (by repeat first | exact Rem.head | apply Rem.tail) ?_)))

theorem tell4_at (pb ob : Nat) : TellL Tryz.prog 74 [.pointer (some ⟨pb, 0, none⟩)] 100000 eMirrorConf (DR pb ob) (fun _ => True) (fun x => chMirror 7 x) := fun x o l w _ hl h => tell4 pb ob x o l w h hl

theorem tell5 (pb ob : Nat) (x : SRoute) (o : OV) (l : List SChange) (w : World) (h : At (DR pb ob o l) w) (hl : l.length < 100000) : Calls Tryz.prog 78 #[eRoute.val x, .pointer (some ⟨pb, 0, none⟩)] w (RetR w (DR pb ob o l) (fun _ : OV => True) (fun _ => .tuple #[]) (fun o2 => DR pb ob o2 (l ++ [chRoute 3 x]))) := by
  refine enter (DR pb ob o l).foot 7 [DR pb ob o l] Tryz.func78 rfl rfl (Nat.le_of_ble_eq_true rfl) (start_at h) ?_
  refine sepOut Rem.head ?_
  refine seq (region (cons (box (E := eRoute) (.t rfl) (fun b1 => ?_))))
  refine nil (pN (region (cons (opv (Ev.ldv ty113 (.t rfl) (Lens.id _)) ?_))))
  refine cons (opv (Ev.load (xv := x) ty52 (.t rfl) (ptsVar (by repeat first | exact mH | apply mT | apply mA) (Lens.id _))) ?_)
  refine cons (opv (Ev.buildS (fs := _) (places := [(0, 1), (1, 1), (2, 19), (21, 4), (25, 3), (28, 1), (29, 1)]) z61 rfl Tryz.underlying61 (by kernel_rfl) (.cons (.c (v := I 3) rfl) (.cons (.t rfl) .nil)) (Fills.cons SChange.l_kind rfl (Fills.cons SChange.l_route rfl Fills.nil))) ?_)
  refine cons (callcr (X := OV) (r := OR ob o l) (r' := fun o2 => OR ob o2 (l ++ [chRoute 3 x])) (fun _ => True) (fun _ => .tuple #[]) (fun _ => by repeat first | exact Upd.head | apply Upd.tail | apply Upd.right) (.t rfl) en63 (.cons (.t rfl) .nil) (fun w I => put_ok (chRoute 3 x) ob o l w (at_mem (by repeat first | exact mH | apply mT | apply mA) w I) hl) (fun o3 _ => ?_))
  refine nil (done' rfl .nil (fun w I => ?_))
  exact retR (r' := fun o2 => DR pb ob o2 (l ++ [chRoute 3 x])) _ trivial rfl (List.mem_singleton_self _) w (WInv.sepIn (I.subP (by repeat first | exact SubP.nil | refine SubP.cons (by repeat first | exact Rem.head | apply Rem.tail) ?_)))

theorem tell5_at (pb ob : Nat) : TellL Tryz.prog 78 [.pointer (some ⟨pb, 0, none⟩)] 100000 eRoute (DR pb ob) (fun _ => True) (fun x => chRoute 3 x) := fun x o l w _ hl h => tell5 pb ob x o l w h hl

theorem tell7 (pb ob : Nat) (x : SRoute) (o : OV) (l : List SChange) (w : World) (h : At (DR pb ob o l) w) (hl : l.length < 100000) : Calls Tryz.prog 81 #[eRoute.val x, .pointer (some ⟨pb, 0, none⟩)] w (RetR w (DR pb ob o l) (fun _ : OV => True) (fun _ => .tuple #[]) (fun o2 => DR pb ob o2 (l ++ [chRoute 4 (onlyR x)]))) := by
  refine enter (DR pb ob o l).foot 9 [DR pb ob o l] Tryz.func81 rfl rfl (Nat.le_of_ble_eq_true rfl) (start_at h) ?_
  refine sepOut Rem.head ?_
  refine seq (region (cons (box (E := eRoute) (.t rfl) (fun b1 => ?_))))
  refine nil (pN (region (cons (opv (Ev.ldv ty113 (.t rfl) (Lens.id _)) ?_))))
  refine cons (opv (Ev.fieldAddr (o := 0) (.t rfl) (by kernel_rfl)) ?_)
  refine cons (opv (Ev.load (xv := x.to_) ty50 (.t rfl) (ptsVar (by repeat first | exact mH | apply mT | apply mA) SRoute.l_to_)) ?_)
  refine cons (opv (Ev.buildS (fs := _) (places := [(0, 18), (18, 1)]) z52 rfl Tryz.underlying52 (by kernel_rfl) (.cons (.t rfl) .nil) (Fills.cons SRoute.l_to_ rfl Fills.nil)) ?_)
  refine cons (opv (Ev.buildS (fs := _) (places := [(0, 1), (1, 1), (2, 19), (21, 4), (25, 3), (28, 1), (29, 1)]) z61 rfl Tryz.underlying61 (by kernel_rfl) (.cons (.c (v := I 4) rfl) (.cons (.t rfl) .nil)) (Fills.cons SChange.l_kind rfl (Fills.cons SChange.l_route rfl Fills.nil))) ?_)
  refine cons (callcr (X := OV) (r := OR ob o l) (r' := fun o2 => OR ob o2 (l ++ [chRoute 4 (onlyR x)])) (fun _ => True) (fun _ => .tuple #[]) (fun _ => by repeat first | exact Upd.head | apply Upd.tail | apply Upd.right) (.t rfl) en63 (.cons (.t rfl) .nil) (fun w I => put_ok (chRoute 4 (onlyR x)) ob o l w (at_mem (by repeat first | exact mH | apply mT | apply mA) w I) hl) (fun o3 _ => ?_))
  refine nil (done' rfl .nil (fun w I => ?_))
  exact retR (r' := fun o2 => DR pb ob o2 (l ++ [chRoute 4 (onlyR x)])) _ trivial rfl (List.mem_singleton_self _) w (WInv.sepIn (I.subP (by repeat first | exact SubP.nil | refine SubP.cons (by repeat first | exact Rem.head | apply Rem.tail) ?_)))

theorem tell7_at (pb ob : Nat) : TellL Tryz.prog 81 [.pointer (some ⟨pb, 0, none⟩)] 100000 eRoute (DR pb ob) (fun _ => True) (fun x => chRoute 4 (onlyR x)) := fun x o l w _ hl h => tell7 pb ob x o l w h hl

theorem tell9 (pb ob : Nat) (x : SMeterConf) (o : OV) (l : List SChange) (w : World) (h : At (DR pb ob o l) w) (hl : l.length < 100000) : Calls Tryz.prog 84 #[eMeterConf.val x, .pointer (some ⟨pb, 0, none⟩)] w (RetR w (DR pb ob o l) (fun _ : OV => True) (fun _ => .tuple #[]) (fun o2 => DR pb ob o2 (l ++ [chMeter 6 (onlyM x)]))) := by
  refine enter (DR pb ob o l).foot 9 [DR pb ob o l] Tryz.func84 rfl rfl (Nat.le_of_ble_eq_true rfl) (start_at h) ?_
  refine sepOut Rem.head ?_
  refine seq (region (cons (box (E := eMeterConf) (.t rfl) (fun b1 => ?_))))
  refine nil (pN (region (cons (opv (Ev.ldv ty113 (.t rfl) (Lens.id _)) ?_))))
  refine cons (opv (Ev.fieldAddr (o := 0) (.t rfl) (by kernel_rfl)) ?_)
  refine cons (opv (Ev.load (xv := x.name) ty9 (.t rfl) (ptsVar (by repeat first | exact mH | apply mT | apply mA) SMeterConf.l_name)) ?_)
  refine cons (opv (Ev.buildS (fs := _) (places := [(0, 1), (1, 3)]) z57 rfl Tryz.underlying57 (by kernel_rfl) (.cons (.t rfl) .nil) (Fills.cons SMeterConf.l_name rfl Fills.nil)) ?_)
  refine cons (opv (Ev.buildS (fs := _) (places := [(0, 1), (1, 1), (2, 19), (21, 4), (25, 3), (28, 1), (29, 1)]) z61 rfl Tryz.underlying61 (by kernel_rfl) (.cons (.c (v := I 6) rfl) (.cons (.t rfl) .nil)) (Fills.cons SChange.l_kind rfl (Fills.cons SChange.l_meter rfl Fills.nil))) ?_)
  refine cons (callcr (X := OV) (r := OR ob o l) (r' := fun o2 => OR ob o2 (l ++ [chMeter 6 (onlyM x)])) (fun _ => True) (fun _ => .tuple #[]) (fun _ => by repeat first | exact Upd.head | apply Upd.tail | apply Upd.right) (.t rfl) en63 (.cons (.t rfl) .nil) (fun w I => put_ok (chMeter 6 (onlyM x)) ob o l w (at_mem (by repeat first | exact mH | apply mT | apply mA) w I) hl) (fun o3 _ => ?_))
  refine nil (done' rfl .nil (fun w I => ?_))
  exact retR (r' := fun o2 => DR pb ob o2 (l ++ [chMeter 6 (onlyM x)])) _ trivial rfl (List.mem_singleton_self _) w (WInv.sepIn (I.subP (by repeat first | exact SubP.nil | refine SubP.cons (by repeat first | exact Rem.head | apply Rem.tail) ?_)))

theorem tell9_at (pb ob : Nat) : TellL Tryz.prog 84 [.pointer (some ⟨pb, 0, none⟩)] 100000 eMeterConf (DR pb ob) (fun _ => True) (fun x => chMeter 6 (onlyM x)) := fun x o l w _ hl h => tell9 pb ob x o l w h hl

theorem tell11 (pb ob : Nat) (x : SMirrorConf) (o : OV) (l : List SChange) (w : World) (h : At (DR pb ob o l) w) (hl : l.length < 100000) : Calls Tryz.prog 87 #[eMirrorConf.val x, .pointer (some ⟨pb, 0, none⟩)] w (RetR w (DR pb ob o l) (fun _ : OV => True) (fun _ => .tuple #[]) (fun o2 => DR pb ob o2 (l ++ [chMirror 8 (onlyX x)]))) := by
  refine enter (DR pb ob o l).foot 9 [DR pb ob o l] Tryz.func87 rfl rfl (Nat.le_of_ble_eq_true rfl) (start_at h) ?_
  refine sepOut Rem.head ?_
  refine seq (region (cons (box (E := eMirrorConf) (.t rfl) (fun b1 => ?_))))
  refine nil (pN (region (cons (opv (Ev.ldv ty113 (.t rfl) (Lens.id _)) ?_))))
  refine cons (opv (Ev.fieldAddr (o := 0) (.t rfl) (by kernel_rfl)) ?_)
  refine cons (opv (Ev.load (xv := x.name) ty9 (.t rfl) (ptsVar (by repeat first | exact mH | apply mT | apply mA) SMirrorConf.l_name)) ?_)
  refine cons (opv (Ev.buildS (fs := _) (places := [(0, 1), (1, 1), (2, 1)]) z59 rfl Tryz.underlying59 (by kernel_rfl) (.cons (.t rfl) .nil) (Fills.cons SMirrorConf.l_name rfl Fills.nil)) ?_)
  refine cons (opv (Ev.buildS (fs := _) (places := [(0, 1), (1, 1), (2, 19), (21, 4), (25, 3), (28, 1), (29, 1)]) z61 rfl Tryz.underlying61 (by kernel_rfl) (.cons (.c (v := I 8) rfl) (.cons (.t rfl) .nil)) (Fills.cons SChange.l_kind rfl (Fills.cons SChange.l_mirror rfl Fills.nil))) ?_)
  refine cons (callcr (X := OV) (r := OR ob o l) (r' := fun o2 => OR ob o2 (l ++ [chMirror 8 (onlyX x)])) (fun _ => True) (fun _ => .tuple #[]) (fun _ => by repeat first | exact Upd.head | apply Upd.tail | apply Upd.right) (.t rfl) en63 (.cons (.t rfl) .nil) (fun w I => put_ok (chMirror 8 (onlyX x)) ob o l w (at_mem (by repeat first | exact mH | apply mT | apply mA) w I) hl) (fun o3 _ => ?_))
  refine nil (done' rfl .nil (fun w I => ?_))
  exact retR (r' := fun o2 => DR pb ob o2 (l ++ [chMirror 8 (onlyX x)])) _ trivial rfl (List.mem_singleton_self _) w (WInv.sepIn (I.subP (by repeat first | exact SubP.nil | refine SubP.cons (by repeat first | exact Rem.head | apply Rem.tail) ?_)))

theorem tell11_at (pb ob : Nat) : TellL Tryz.prog 87 [.pointer (some ⟨pb, 0, none⟩)] 100000 eMirrorConf (DR pb ob) (fun _ => True) (fun x => chMirror 8 (onlyX x)) := fun x o l w _ hl h => tell11 pb ob x o l w h hl

theorem tell12 (pb ob : Nat) (x : Int) (o : OV) (l : List SChange) (w : World) (h : At (DR pb ob o l) w) (hl : l.length < 100000) : Calls Tryz.prog 88 #[iE.val x, .pointer (some ⟨pb, 0, none⟩)] w (RetR w (DR pb ob o l) (fun _ : OV => True) (fun _ => .tuple #[]) (fun o2 => DR pb ob o2 (l ++ [chPort 2 x]))) := by
  refine enter (DR pb ob o l).foot 7 [DR pb ob o l] Tryz.func88 rfl rfl (Nat.le_of_ble_eq_true rfl) (start_at h) ?_
  refine sepOut Rem.head ?_
  refine region (cons (opv (Ev.ldv ty113 (.t rfl) (Lens.id _)) ?_))
  refine cons (opv (Ev.move (.t rfl)) (cons (opv (Ev.buildS (fs := _) (places := [(0, 1), (1, 1), (2, 19), (21, 4), (25, 3), (28, 1), (29, 1)]) z61 rfl Tryz.underlying61 (by kernel_rfl) (.cons (.c (v := I 2) rfl) (.cons (.t rfl) .nil)) (Fills.cons SChange.l_kind rfl (Fills.cons SChange.l_port rfl Fills.nil))) ?_)))
  refine cons (callcr (X := OV) (r := OR ob o l) (r' := fun o2 => OR ob o2 (l ++ [chPort 2 x])) (fun _ => True) (fun _ => .tuple #[]) (fun _ => by repeat first | exact Upd.head | apply Upd.tail | apply Upd.right) (.t rfl) en63 (.cons (.t rfl) .nil) (fun w I => put_ok (chPort 2 x) ob o l w (at_mem (by repeat first | exact mH | apply mT | apply mA) w I) hl) (fun o3 _ => ?_))
  refine nil (done' rfl .nil (fun w I => ?_))
  exact retR (r' := fun o2 => DR pb ob o2 (l ++ [chPort 2 x])) _ trivial rfl (List.mem_singleton_self _) w (WInv.sepIn (I.subP (by repeat first | exact SubP.nil | refine SubP.cons (by repeat first | exact Rem.head | apply Rem.tail) ?_)))

theorem tell12_at (pb ob : Nat) : TellL Tryz.prog 88 [.pointer (some ⟨pb, 0, none⟩)] 100000 iE (DR pb ob) (fun _ => True) (fun x => chPort 2 x) := fun x o l w _ hl h => tell12 pb ob x o l w h hl

theorem its_i (a : Int) (w : World) : Calls Tryz.prog 65 #[iE.val a] w (RetV w (iE.val (a))) := by
  refine enter0 4 Tryz.func65 rfl rfl (Nat.le_of_ble_eq_true rfl) ?_
  refine seq (region (cons (opv (Ev.assign (.c (v := I 0) rfl)) ?_)))
  refine nil (pN (seq (region (cons (opv (Ev.move (.t rfl)) (cons (opv (Ev.assign (.t rfl)) (nil (pN (ret (done rfl (.tmp rfl .nil) (retE ?_))))))))))))
  rfl

theorem its_i_at (M : Nat → Prop) (w : World) : FnAt Tryz.prog 65 [] M w iE iE (fun _ => True) (fun a => a) := fun a w _ _ => its_i a w

theorem its_m (a : SMeterConf) (w : World) : Calls Tryz.prog 69 #[eMeterConf.val a] w (RetV w (eMeterConf.val (a))) := by
  refine enter0 4 Tryz.func69 rfl rfl (Nat.le_of_ble_eq_true rfl) ?_
  refine seq (region (cons (box (E := eMeterConf) (.t rfl) (fun b1 => ?_))))
  refine cons (alloc z57 (fun b2 => ?_))
  refine nil (pN (seq (region (cons (opv (Ev.load (xv := a) ty57 (.t rfl) (ptsVar (by repeat first | exact mH | apply mT | apply mA) (Lens.id _))) ?_)))))
  refine cons (stv ty57 (Lens.id _) (.t rfl) (.t rfl) ?_)
  refine nil (pN (ret (done rfl (.cell rfl (fun w I => run_loadVar_pts ty57 (ptsVar (by repeat first | exact mH | apply mT | apply mA) (Lens.id _) w I)) .nil) (retE ?_))))
  rfl

theorem its_m_at (M : Nat → Prop) (w : World) : FnAt Tryz.prog 69 [] M w eMeterConf eMeterConf (fun _ => True) (fun a => a) := fun a w _ _ => its_m a w

theorem its_x (a : SMirrorConf) (w : World) : Calls Tryz.prog 73 #[eMirrorConf.val a] w (RetV w (eMirrorConf.val (a))) := by
  refine enter0 4 Tryz.func73 rfl rfl (Nat.le_of_ble_eq_true rfl) ?_
  refine seq (region (cons (box (E := eMirrorConf) (.t rfl) (fun b1 => ?_))))
  refine cons (alloc z59 (fun b2 => ?_))
  refine nil (pN (seq (region (cons (opv (Ev.load (xv := a) ty59 (.t rfl) (ptsVar (by repeat first | exact mH | apply mT | apply mA) (Lens.id _))) ?_)))))
  refine cons (stv ty59 (Lens.id _) (.t rfl) (.t rfl) ?_)
  refine nil (pN (ret (done rfl (.cell rfl (fun w I => run_loadVar_pts ty59 (ptsVar (by repeat first | exact mH | apply mT | apply mA) (Lens.id _) w I)) .nil) (retE ?_))))
  rfl

theorem its_x_at (M : Nat → Prop) (w : World) : FnAt Tryz.prog 73 [] M w eMirrorConf eMirrorConf (fun _ => True) (fun a => a) := fun a w _ _ => its_x a w

theorem its_r (a : SRoute) (w : World) : Calls Tryz.prog 77 #[eRoute.val a] w (RetV w (eRoute.val (a))) := by
  refine enter0 4 Tryz.func77 rfl rfl (Nat.le_of_ble_eq_true rfl) ?_
  refine seq (region (cons (box (E := eRoute) (.t rfl) (fun b1 => ?_))))
  refine cons (alloc z52 (fun b2 => ?_))
  refine nil (pN (seq (region (cons (opv (Ev.load (xv := a) ty52 (.t rfl) (ptsVar (by repeat first | exact mH | apply mT | apply mA) (Lens.id _))) ?_)))))
  refine cons (stv ty52 (Lens.id _) (.t rfl) (.t rfl) ?_)
  refine nil (pN (ret (done rfl (.cell rfl (fun w I => run_loadVar_pts ty52 (ptsVar (by repeat first | exact mH | apply mT | apply mA) (Lens.id _) w I)) .nil) (retE ?_))))
  rfl

theorem its_r_at (M : Nat → Prop) (w : World) : FnAt Tryz.prog 77 [] M w eRoute eRoute (fun _ => True) (fun a => a) := fun a w _ _ => its_r a w

theorem key6 (a : SRoute) (w : World) : Calls Tryz.prog 80 #[eRoute.val a] w (RetV w (ePrefix.val (a.to_))) := by
  refine enter0 5 Tryz.func80 rfl rfl (Nat.le_of_ble_eq_true rfl) ?_
  refine seq (region (cons (box (E := eRoute) (.t rfl) (fun b1 => ?_))))
  refine cons (alloc z50 (fun b2 => ?_))
  refine nil (pN (seq (region (cons (opv (Ev.fieldAddr (o := 0) (.t rfl) (by kernel_rfl)) ?_)))))
  refine cons (opv (Ev.load (xv := a.to_) ty50 (.t rfl) (ptsVar (by repeat first | exact mH | apply mT | apply mA) SRoute.l_to_)) ?_)
  refine cons (stv ty50 (Lens.id _) (.t rfl) (.t rfl) ?_)
  refine nil (pN (ret (done rfl (.cell rfl (fun w I => run_loadVar_pts ty50 (ptsVar (by repeat first | exact mH | apply mT | apply mA) (Lens.id _) w I)) .nil) (retE ?_))))
  rfl

theorem key6_at (M : Nat → Prop) (w : World) : FnAt Tryz.prog 80 [] M w eRoute ePrefix (fun _ => True) (fun a => a.to_) := fun a w _ _ => key6 a w

theorem key8 (a : SMeterConf) (w : World) : Calls Tryz.prog 83 #[eMeterConf.val a] w (RetV w (sE.val (a.name))) := by
  refine enter0 5 Tryz.func83 rfl rfl (Nat.le_of_ble_eq_true rfl) ?_
  refine seq (region (cons (box (E := eMeterConf) (.t rfl) (fun b1 => ?_))))
  refine cons (opv (Ev.assign (.c (v := (Go.Value.string (ByteArray.mk #[]))) rfl)) ?_)
  refine nil (pN (seq (region (cons (opv (Ev.fieldAddr (o := 0) (.t rfl) (by kernel_rfl)) ?_)))))
  refine cons (opv (Ev.load (xv := a.name) ty9 (.t rfl) (ptsVar (by repeat first | exact mH | apply mT | apply mA) SMeterConf.l_name)) ?_)
  refine cons (opv (Ev.assign (.t rfl)) (nil (pN (ret (done rfl (.tmp rfl .nil) (retE ?_))))))
  rfl

theorem key8_at (M : Nat → Prop) (w : World) : FnAt Tryz.prog 83 [] M w eMeterConf sE (fun _ => True) (fun a => a.name) := fun a w _ _ => key8 a w

theorem key10 (a : SMirrorConf) (w : World) : Calls Tryz.prog 86 #[eMirrorConf.val a] w (RetV w (sE.val (a.name))) := by
  refine enter0 5 Tryz.func86 rfl rfl (Nat.le_of_ble_eq_true rfl) ?_
  refine seq (region (cons (box (E := eMirrorConf) (.t rfl) (fun b1 => ?_))))
  refine cons (opv (Ev.assign (.c (v := (Go.Value.string (ByteArray.mk #[]))) rfl)) ?_)
  refine nil (pN (seq (region (cons (opv (Ev.fieldAddr (o := 0) (.t rfl) (by kernel_rfl)) ?_)))))
  refine cons (opv (Ev.load (xv := a.name) ty9 (.t rfl) (ptsVar (by repeat first | exact mH | apply mT | apply mA) SMirrorConf.l_name)) ?_)
  refine cons (opv (Ev.assign (.t rfl)) (nil (pN (ret (done rfl (.tmp rfl .nil) (retE ?_))))))
  rfl

theorem key10_at (M : Nat → Prop) (w : World) : FnAt Tryz.prog 86 [] M w eMirrorConf sE (fun _ => True) (fun a => a.name) := fun a w _ _ => key10 a w

theorem gone_3_3 (fk ft : Nat) (cap : List Value) (kf : Int → Int) (mk : Int → SChange) (b : Nat) (m : List (Int × Int)) (S0 : OV → List SChange → Res) (o : OV) (cs : List SChange) (u : Value) (xs : List Int) (w : World) (hek : Gx.Enters Tryz.prog fk) (het : Gx.Enters Tryz.prog ft) (h : At (S0 o cs) w) (hxs : ∀ w1, Keeps (S0 o cs).foot w w1 → IsSl iE w1 u xs) (hm : ∀ w1, Keeps (S0 o cs).foot w w1 → MapAt w1 b iE iE m) (hk : FnAt Tryz.prog fk [] (S0 o cs).foot w iE iE (fun _ => True) kf) (ht : TellL Tryz.prog ft cap 100000 iE S0 (fun _ => True) mk) (hn : cs.length + xs.length < 100000) : Calls Tryz.prog 64 #[u, .map (some b), (clo fk []).v, (clo ft cap).v] w (RetR w (S0 o cs) (fun _ : OV => True) (fun _ => .tuple #[]) (fun o2 => S0 o2 (cs ++ goneL eqd kf m mk xs))) := by
  have hle := (hxs w (Keeps.refl _ _)).le
  refine enter (S0 o cs).foot 32 [S0 o cs] Tryz.func64 rfl rfl (Nat.le_of_ble_eq_true rfl) (start_at h) ?_
  refine seq (region (cons (opv (Ev.move (.t rfl)) (cons (opv (Ev.len Tryz.underlying22 (.t rfl) (fun w I => hxs w I.keeps)) ?_)))))
  refine cons (opv (Ev.move (.c (v := I 0) rfl)) ?_)
  refine nil (pN (block (loop (X := Int × OV) (fun x : Int × OV => (0 ≤ x.1 ∧ x.1 ≤ xs.length)) (fun x : Int × OV => [(1, true, .map (some b)), (2, true, (clo fk []).v), (3, true, (clo ft cap).v), (12, true, u), (13, true, I xs.length), (14, true, I x.1)]) (fun x : Int × OV => [S0 x.2 (cs ++ goneL eqd kf m mk (xs.take x.1.toNat))]) (fun x : Int × OV => ((xs.length : Int) - x.1).toNat) (0, o) ?_ (by repeat first | exact Sub.nil | refine Sub.cons rfl ?_) (by simp only [show (0 : Int).toNat = 0 from rfl, List.take_zero, goneL, List.filter_nil, List.map_nil, List.append_nil]; repeat first | exact sR | exact sN | apply sC | apply sS | apply sA) (fun x hx => ?_))))
  · omega
  obtain ⟨i, p⟩ := x
  have hi : 0 ≤ i ∧ i ≤ xs.length := hx
  clear hx
  show Sat _ _ [(1, true, .map (some b)), (2, true, (clo fk []).v), (3, true, (clo ft cap).v), (12, true, u), (13, true, I xs.length), (14, true, I i)] [S0 p (cs ++ goneL eqd kf m mk (xs.take i.toNat))]
  refine seq (region (cons (opv (Ev.lss_i (.t rfl) (.t rfl)) ?_)))
  refine nil (pN (seq ?_))
  first | refine condD rfl (fun h0 => ?_) (fun h0 => ?_) | refine cond rfl (fun h0 => ?_) (fun h0 => ?_)
  · try simp only [nb] at h0
    refine skip (pN (seq (block (seq (region (cons (opv (Ev.indexAddr Tryz.underlying22 ty3 (.t rfl) (.t rfl) (fun w I => hxs w I.keeps) (fun _ => by omega)) ?_)))))))
    refine cons (opv (Ev.loadS0 ty3 (.t rfl) (fun w I => hxs w I.keeps) (fun _ => by omega)) ?_)
    refine cons (opv (Ev.assign (.t rfl)) (nil (pN (seq (region ?_)))))
    have hst := goneL_step eqd kf m mk xs iE.zero (i := i) (by omega)
    refine cons (opv (Ev.move (.t rfl)) (cons (opv (Ev.move (.t rfl)) (cons (opv (Ev.move (.t rfl)) (cons (callcv (.t rfl) hek (.cons (.t rfl) .nil) (fun w I => hk (xs.getD i.toNat iE.zero) w trivial I.keeps) ?_)))))))
    refine cons (opv (Ev.lookupT Tryz.underlying80 Tryz.underlying3 key3 z3 (.t rfl) (.t rfl) (fun _ => (fun w I => hm w I.keeps))) ?_)
    refine cons (opv (Ev.move (.t rfl)) (cons (opv (Ev.extract (.t rfl) rfl) (cons (opv (Ev.extract (.t rfl) rfl) (cons (opv (Ev.assign (.t rfl)) (cons (opv (Ev.assign (.t rfl)) (nil (pN (seq (region (cons (opv (Ev.move (.t rfl)) (cons (opv (Ev.not (.t rfl)) ?_)))))))))))))))))
    refine nil (pN ?_)
    first | refine condD rfl (fun h1 => ?_) (fun h1 => ?_) | refine cond rfl (fun h1 => ?_) (fun h1 => ?_)
    · try simp only [nb] at h1
      have hq : (findV eqd (kf (xs.getD i.toNat iE.zero)) m).isNone = true := by simpa using h1
      refine region (cons (opv (Ev.move (.t rfl)) (cons (opv (Ev.move (.t rfl)) (cons (callcr (X := OV) (r := S0 p (cs ++ goneL eqd kf m mk (xs.take i.toNat))) (r' := fun o2 => S0 o2 (cs ++ goneL eqd kf m mk (xs.take i.toNat) ++ [mk (xs.getD i.toNat iE.zero)])) (fun _ => True) (fun _ => .tuple #[]) (fun _ => by repeat first | exact Upd.head | apply Upd.tail | apply Upd.right) (.t rfl) het (.cons (.t rfl) .nil) (fun w I => ht (xs.getD i.toNat iE.zero) p _ w trivial (by have := goneL_len eqd kf m mk (xs.take i.toNat); simp only [List.length_append, List.length_take] at this ⊢; omega) (at_mem (by repeat first | exact mH | apply mT | apply mA) w I)) (fun o3 _ => ?_)))))))
      refine nil (bN (pN (region (cons (opv (Ev.add_i (.t rfl) (.c (v := I 1) rfl) (fun _ => by omega)) ?_)))))
      refine cons (opv (Ev.move (.t rfl)) (nil (pN (next (X := Int × OV) (i + 1, _) ?_ ?_ (by repeat first | exact Sub.nil | refine Sub.cons rfl ?_) (by rw [hst]; (first | rw [if_pos hq, ← List.append_assoc] | rw [if_neg hq, List.append_nil]); repeat first | exact sR | exact sN | apply sC | apply sS | apply sA)))))
      · try dsimp only
        omega
      · try dsimp only
        omega
    · try simp only [nb] at h1
      have hq : ¬ (findV eqd (kf (xs.getD i.toNat iE.zero)) m).isNone = true := fun e => by
        rw [Option.isNone_iff_eq_none] at e
        rw [e] at h1
        simp at h1
      refine skip (bN (pN (region (cons (opv (Ev.add_i (.t rfl) (.c (v := I 1) rfl) (fun _ => by omega)) ?_)))))
      refine cons (opv (Ev.move (.t rfl)) (nil (pN (next (X := Int × OV) (i + 1, _) ?_ ?_ (by repeat first | exact Sub.nil | refine Sub.cons rfl ?_) (by rw [hst]; (first | rw [if_pos hq, ← List.append_assoc] | rw [if_neg hq, List.append_nil]); repeat first | exact sR | exact sN | apply sC | apply sS | apply sA)))))
      · try dsimp only
        omega
      · try dsimp only
        omega
  · try simp only [nb] at h0
    refine exit (pX (pX (bX (done' rfl .nil (fun w I => ?_)))))
    have et : xs.take i.toNat = xs := List.take_of_length_le (by omega)
    rw [et] at I
    exact retR (r' := fun o2 => S0 o2 (cs ++ goneL eqd kf m mk xs)) _ trivial rfl (List.mem_singleton_self _) w (I.sub (by repeat first | exact sR | exact sN | apply sC | apply sS | apply sA))

theorem gone_57_57 (fk ft : Nat) (cap : List Value) (kf : SMeterConf → SMeterConf) (mk : SMeterConf → SChange) (b : Nat) (m : List (SMeterConf × Int)) (S0 : OV → List SChange → Res) (o : OV) (cs : List SChange) (u : Value) (xs : List SMeterConf) (w : World) (hek : Gx.Enters Tryz.prog fk) (het : Gx.Enters Tryz.prog ft) (h : At (S0 o cs) w) (hxs : ∀ w1, Keeps (S0 o cs).foot w w1 → IsSl eMeterConf w1 u xs) (hm : ∀ w1, Keeps (S0 o cs).foot w w1 → MapAt w1 b eMeterConf iE m) (hk : FnAt Tryz.prog fk [] (S0 o cs).foot w eMeterConf eMeterConf (fun _ => True) kf) (ht : TellL Tryz.prog ft cap 100000 eMeterConf S0 (fun _ => True) mk) (hn : cs.length + xs.length < 100000) : Calls Tryz.prog 67 #[u, .map (some b), (clo fk []).v, (clo ft cap).v] w (RetR w (S0 o cs) (fun _ : OV => True) (fun _ => .tuple #[]) (fun o2 => S0 o2 (cs ++ goneL SMeterConf.eqb kf m mk xs))) := by
  have hle := (hxs w (Keeps.refl _ _)).le
  refine enter (S0 o cs).foot 32 [S0 o cs] Tryz.func67 rfl rfl (Nat.le_of_ble_eq_true rfl) (start_at h) ?_
  refine seq (region (cons (opv (Ev.move (.t rfl)) (cons (opv (Ev.len Tryz.underlying25 (.t rfl) (fun w I => hxs w I.keeps)) ?_)))))
  refine cons (opv (Ev.move (.c (v := I 0) rfl)) ?_)
  refine nil (pN (block (loop (X := Int × OV) (fun x : Int × OV => (0 ≤ x.1 ∧ x.1 ≤ xs.length)) (fun x : Int × OV => [(1, true, .map (some b)), (2, true, (clo fk []).v), (3, true, (clo ft cap).v), (12, true, u), (13, true, I xs.length), (14, true, I x.1)]) (fun x : Int × OV => [S0 x.2 (cs ++ goneL SMeterConf.eqb kf m mk (xs.take x.1.toNat))]) (fun x : Int × OV => ((xs.length : Int) - x.1).toNat) (0, o) ?_ (by repeat first | exact Sub.nil | refine Sub.cons rfl ?_) (by simp only [show (0 : Int).toNat = 0 from rfl, List.take_zero, goneL, List.filter_nil, List.map_nil, List.append_nil]; repeat first | exact sR | exact sN | apply sC | apply sS | apply sA) (fun x hx => ?_))))
  · omega
  obtain ⟨i, p⟩ := x
  have hi : 0 ≤ i ∧ i ≤ xs.length := hx
  clear hx
  show Sat _ _ [(1, true, .map (some b)), (2, true, (clo fk []).v), (3, true, (clo ft cap).v), (12, true, u), (13, true, I xs.length), (14, true, I i)] [S0 p (cs ++ goneL SMeterConf.eqb kf m mk (xs.take i.toNat))]
  refine seq (region (cons (opv (Ev.lss_i (.t rfl) (.t rfl)) ?_)))
  refine nil (pN (seq ?_))
  first | refine condD rfl (fun h0 => ?_) (fun h0 => ?_) | refine cond rfl (fun h0 => ?_) (fun h0 => ?_)
  · try simp only [nb] at h0
    refine skip (pN (seq (block (seq (region (cons (opv (Ev.indexAddr Tryz.underlying25 ty57 (.t rfl) (.t rfl) (fun w I => hxs w I.keeps) (fun _ => by omega)) ?_)))))))
    refine cons (opv (Ev.loadS0 ty57 (.t rfl) (fun w I => hxs w I.keeps) (fun _ => by omega)) ?_)
    refine cons (alloc z57 (fun b1 => ?_))
    refine cons (stv ty57 (Lens.id _) (.t rfl) (.t rfl) ?_)
    refine nil (pN (seq (region ?_)))
    have hst := goneL_step SMeterConf.eqb kf m mk xs eMeterConf.zero (i := i) (by omega)
    refine cons (opv (Ev.move (.t rfl)) (cons (opv (Ev.move (.t rfl)) (cons (opv (Ev.ldv ty57 (.t rfl) (Lens.id _)) ?_)))))
    refine cons (callcv (.t rfl) hek (.cons (.t rfl) .nil) (fun w I => hk (xs.getD i.toNat eMeterConf.zero) w trivial I.keeps) ?_)
    refine cons (opv (Ev.lookupT Tryz.underlying118 Tryz.underlying57 key57 z3 (.t rfl) (.t rfl) (fun _ => (fun w I => hm w I.keeps))) ?_)
    refine cons (opv (Ev.move (.t rfl)) (cons (opv (Ev.extract (.t rfl) rfl) (cons (opv (Ev.extract (.t rfl) rfl) (cons (opv (Ev.assign (.t rfl)) (cons (opv (Ev.assign (.t rfl)) (nil (pN (seq (region (cons (opv (Ev.move (.t rfl)) (cons (opv (Ev.not (.t rfl)) ?_)))))))))))))))))
    refine nil (pN ?_)
    first | refine condD rfl (fun h1 => ?_) (fun h1 => ?_) | refine cond rfl (fun h1 => ?_) (fun h1 => ?_)
    · try simp only [nb] at h1
      have hq : (findV SMeterConf.eqb (kf (xs.getD i.toNat eMeterConf.zero)) m).isNone = true := by simpa using h1
      refine region (cons (opv (Ev.move (.t rfl)) (cons (opv (Ev.ldv ty57 (.t rfl) (Lens.id _)) ?_))))
      refine cons (callcr (X := OV) (r := S0 p (cs ++ goneL SMeterConf.eqb kf m mk (xs.take i.toNat))) (r' := fun o2 => S0 o2 (cs ++ goneL SMeterConf.eqb kf m mk (xs.take i.toNat) ++ [mk (xs.getD i.toNat eMeterConf.zero)])) (fun _ => True) (fun _ => .tuple #[]) (fun _ => by repeat first | exact Upd.head | apply Upd.tail | apply Upd.right) (.t rfl) het (.cons (.t rfl) .nil) (fun w I => ht (xs.getD i.toNat eMeterConf.zero) p _ w trivial (by have := goneL_len SMeterConf.eqb kf m mk (xs.take i.toNat); simp only [List.length_append, List.length_take] at this ⊢; omega) (at_mem (by repeat first | exact mH | apply mT | apply mA) w I)) (fun o3 _ => ?_))
      refine nil (bN (pN (region (cons (opv (Ev.add_i (.t rfl) (.c (v := I 1) rfl) (fun _ => by omega)) ?_)))))
      refine cons (opv (Ev.move (.t rfl)) (nil (pN (next (X := Int × OV) (i + 1, _) ?_ ?_ (by repeat first | exact Sub.nil | refine Sub.cons rfl ?_) (by rw [hst]; (first | rw [if_pos hq, ← List.append_assoc] | rw [if_neg hq, List.append_nil]); repeat first | exact sR | exact sN | apply sC | apply sS | apply sA)))))
      · try dsimp only
        omega
      · try dsimp only
        omega
    · try simp only [nb] at h1
      have hq : ¬ (findV SMeterConf.eqb (kf (xs.getD i.toNat eMeterConf.zero)) m).isNone = true := fun e => by
        rw [Option.isNone_iff_eq_none] at e
        rw [e] at h1
        simp at h1
      refine skip (bN (pN (region (cons (opv (Ev.add_i (.t rfl) (.c (v := I 1) rfl) (fun _ => by omega)) ?_)))))
      refine cons (opv (Ev.move (.t rfl)) (nil (pN (next (X := Int × OV) (i + 1, _) ?_ ?_ (by repeat first | exact Sub.nil | refine Sub.cons rfl ?_) (by rw [hst]; (first | rw [if_pos hq, ← List.append_assoc] | rw [if_neg hq, List.append_nil]); repeat first | exact sR | exact sN | apply sC | apply sS | apply sA)))))
      · try dsimp only
        omega
      · try dsimp only
        omega
  · try simp only [nb] at h0
    refine exit (pX (pX (bX (done' rfl .nil (fun w I => ?_)))))
    have et : xs.take i.toNat = xs := List.take_of_length_le (by omega)
    rw [et] at I
    exact retR (r' := fun o2 => S0 o2 (cs ++ goneL SMeterConf.eqb kf m mk xs)) _ trivial rfl (List.mem_singleton_self _) w (I.sub (by repeat first | exact sR | exact sN | apply sC | apply sS | apply sA))

theorem gone_59_59 (fk ft : Nat) (cap : List Value) (kf : SMirrorConf → SMirrorConf) (mk : SMirrorConf → SChange) (b : Nat) (m : List (SMirrorConf × Int)) (S0 : OV → List SChange → Res) (o : OV) (cs : List SChange) (u : Value) (xs : List SMirrorConf) (w : World) (hek : Gx.Enters Tryz.prog fk) (het : Gx.Enters Tryz.prog ft) (h : At (S0 o cs) w) (hxs : ∀ w1, Keeps (S0 o cs).foot w w1 → IsSl eMirrorConf w1 u xs) (hm : ∀ w1, Keeps (S0 o cs).foot w w1 → MapAt w1 b eMirrorConf iE m) (hk : FnAt Tryz.prog fk [] (S0 o cs).foot w eMirrorConf eMirrorConf (fun _ => True) kf) (ht : TellL Tryz.prog ft cap 100000 eMirrorConf S0 (fun _ => True) mk) (hn : cs.length + xs.length < 100000) : Calls Tryz.prog 71 #[u, .map (some b), (clo fk []).v, (clo ft cap).v] w (RetR w (S0 o cs) (fun _ : OV => True) (fun _ => .tuple #[]) (fun o2 => S0 o2 (cs ++ goneL SMirrorConf.eqb kf m mk xs))) := by
  have hle := (hxs w (Keeps.refl _ _)).le
  refine enter (S0 o cs).foot 32 [S0 o cs] Tryz.func71 rfl rfl (Nat.le_of_ble_eq_true rfl) (start_at h) ?_
  refine seq (region (cons (opv (Ev.move (.t rfl)) (cons (opv (Ev.len Tryz.underlying26 (.t rfl) (fun w I => hxs w I.keeps)) ?_)))))
  refine cons (opv (Ev.move (.c (v := I 0) rfl)) ?_)
  refine nil (pN (block (loop (X := Int × OV) (fun x : Int × OV => (0 ≤ x.1 ∧ x.1 ≤ xs.length)) (fun x : Int × OV => [(1, true, .map (some b)), (2, true, (clo fk []).v), (3, true, (clo ft cap).v), (12, true, u), (13, true, I xs.length), (14, true, I x.1)]) (fun x : Int × OV => [S0 x.2 (cs ++ goneL SMirrorConf.eqb kf m mk (xs.take x.1.toNat))]) (fun x : Int × OV => ((xs.length : Int) - x.1).toNat) (0, o) ?_ (by repeat first | exact Sub.nil | refine Sub.cons rfl ?_) (by simp only [show (0 : Int).toNat = 0 from rfl, List.take_zero, goneL, List.filter_nil, List.map_nil, List.append_nil]; repeat first | exact sR | exact sN | apply sC | apply sS | apply sA) (fun x hx => ?_))))
  · omega
  obtain ⟨i, p⟩ := x
  have hi : 0 ≤ i ∧ i ≤ xs.length := hx
  clear hx
  show Sat _ _ [(1, true, .map (some b)), (2, true, (clo fk []).v), (3, true, (clo ft cap).v), (12, true, u), (13, true, I xs.length), (14, true, I i)] [S0 p (cs ++ goneL SMirrorConf.eqb kf m mk (xs.take i.toNat))]
  refine seq (region (cons (opv (Ev.lss_i (.t rfl) (.t rfl)) ?_)))
  refine nil (pN (seq ?_))
  first | refine condD rfl (fun h0 => ?_) (fun h0 => ?_) | refine cond rfl (fun h0 => ?_) (fun h0 => ?_)
  · try simp only [nb] at h0
    refine skip (pN (seq (block (seq (region (cons (opv (Ev.indexAddr Tryz.underlying26 ty59 (.t rfl) (.t rfl) (fun w I => hxs w I.keeps) (fun _ => by omega)) ?_)))))))
    refine cons (opv (Ev.loadS0 ty59 (.t rfl) (fun w I => hxs w I.keeps) (fun _ => by omega)) ?_)
    refine cons (alloc z59 (fun b1 => ?_))
    refine cons (stv ty59 (Lens.id _) (.t rfl) (.t rfl) ?_)
    refine nil (pN (seq (region ?_)))
    have hst := goneL_step SMirrorConf.eqb kf m mk xs eMirrorConf.zero (i := i) (by omega)
    refine cons (opv (Ev.move (.t rfl)) (cons (opv (Ev.move (.t rfl)) (cons (opv (Ev.ldv ty59 (.t rfl) (Lens.id _)) ?_)))))
    refine cons (callcv (.t rfl) hek (.cons (.t rfl) .nil) (fun w I => hk (xs.getD i.toNat eMirrorConf.zero) w trivial I.keeps) ?_)
    refine cons (opv (Ev.lookupT Tryz.underlying123 Tryz.underlying59 key59 z3 (.t rfl) (.t rfl) (fun _ => (fun w I => hm w I.keeps))) ?_)
    refine cons (opv (Ev.move (.t rfl)) (cons (opv (Ev.extract (.t rfl) rfl) (cons (opv (Ev.extract (.t rfl) rfl) (cons (opv (Ev.assign (.t rfl)) (cons (opv (Ev.assign (.t rfl)) (nil (pN (seq (region (cons (opv (Ev.move (.t rfl)) (cons (opv (Ev.not (.t rfl)) ?_)))))))))))))))))
    refine nil (pN ?_)
    first | refine condD rfl (fun h1 => ?_) (fun h1 => ?_) | refine cond rfl (fun h1 => ?_) (fun h1 => ?_)
    · try simp only [nb] at h1
      have hq : (findV SMirrorConf.eqb (kf (xs.getD i.toNat eMirrorConf.zero)) m).isNone = true := by simpa using h1
      refine region (cons (opv (Ev.move (.t rfl)) (cons (opv (Ev.ldv ty59 (.t rfl) (Lens.id _)) ?_))))
      refine cons (callcr (X := OV) (r := S0 p (cs ++ goneL SMirrorConf.eqb kf m mk (xs.take i.toNat))) (r' := fun o2 => S0 o2 (cs ++ goneL SMirrorConf.eqb kf m mk (xs.take i.toNat) ++ [mk (xs.getD i.toNat eMirrorConf.zero)])) (fun _ => True) (fun _ => .tuple #[]) (fun _ => by repeat first | exact Upd.head | apply Upd.tail | apply Upd.right) (.t rfl) het (.cons (.t rfl) .nil) (fun w I => ht (xs.getD i.toNat eMirrorConf.zero) p _ w trivial (by have := goneL_len SMirrorConf.eqb kf m mk (xs.take i.toNat); simp only [List.length_append, List.length_take] at this ⊢; omega) (at_mem (by repeat first | exact mH | apply mT | apply mA) w I)) (fun o3 _ => ?_))
      refine nil (bN (pN (region (cons (opv (Ev.add_i (.t rfl) (.c (v := I 1) rfl) (fun _ => by omega)) ?_)))))
      refine cons (opv (Ev.move (.t rfl)) (nil (pN (next (X := Int × OV) (i + 1, _) ?_ ?_ (by repeat first | exact Sub.nil | refine Sub.cons rfl ?_) (by rw [hst]; (first | rw [if_pos hq, ← List.append_assoc] | rw [if_neg hq, List.append_nil]); repeat first | exact sR | exact sN | apply sC | apply sS | apply sA)))))
      · try dsimp only
        omega
      · try dsimp only
        omega
    · try simp only [nb] at h1
      have hq : ¬ (findV SMirrorConf.eqb (kf (xs.getD i.toNat eMirrorConf.zero)) m).isNone = true := fun e => by
        rw [Option.isNone_iff_eq_none] at e
        rw [e] at h1
        simp at h1
      refine skip (bN (pN (region (cons (opv (Ev.add_i (.t rfl) (.c (v := I 1) rfl) (fun _ => by omega)) ?_)))))
      refine cons (opv (Ev.move (.t rfl)) (nil (pN (next (X := Int × OV) (i + 1, _) ?_ ?_ (by repeat first | exact Sub.nil | refine Sub.cons rfl ?_) (by rw [hst]; (first | rw [if_pos hq, ← List.append_assoc] | rw [if_neg hq, List.append_nil]); repeat first | exact sR | exact sN | apply sC | apply sS | apply sA)))))
      · try dsimp only
        omega
      · try dsimp only
        omega
  · try simp only [nb] at h0
    refine exit (pX (pX (bX (done' rfl .nil (fun w I => ?_)))))
    have et : xs.take i.toNat = xs := List.take_of_length_le (by omega)
    rw [et] at I
    exact retR (r' := fun o2 => S0 o2 (cs ++ goneL SMirrorConf.eqb kf m mk xs)) _ trivial rfl (List.mem_singleton_self _) w (I.sub (by repeat first | exact sR | exact sN | apply sC | apply sS | apply sA))

theorem gone_52_52 (fk ft : Nat) (cap : List Value) (kf : SRoute → SRoute) (mk : SRoute → SChange) (b : Nat) (m : List (SRoute × Int)) (S0 : OV → List SChange → Res) (o : OV) (cs : List SChange) (u : Value) (xs : List SRoute) (w : World) (hek : Gx.Enters Tryz.prog fk) (het : Gx.Enters Tryz.prog ft) (h : At (S0 o cs) w) (hxs : ∀ w1, Keeps (S0 o cs).foot w w1 → IsSl eRoute w1 u xs) (hm : ∀ w1, Keeps (S0 o cs).foot w w1 → MapAt w1 b eRoute iE m) (hk : FnAt Tryz.prog fk [] (S0 o cs).foot w eRoute eRoute (fun _ => True) kf) (ht : TellL Tryz.prog ft cap 100000 eRoute S0 (fun _ => True) mk) (hn : cs.length + xs.length < 100000) : Calls Tryz.prog 75 #[u, .map (some b), (clo fk []).v, (clo ft cap).v] w (RetR w (S0 o cs) (fun _ : OV => True) (fun _ => .tuple #[]) (fun o2 => S0 o2 (cs ++ goneL SRoute.eqb kf m mk xs))) := by
  have hle := (hxs w (Keeps.refl _ _)).le
  refine enter (S0 o cs).foot 32 [S0 o cs] Tryz.func75 rfl rfl (Nat.le_of_ble_eq_true rfl) (start_at h) ?_
  refine seq (region (cons (opv (Ev.move (.t rfl)) (cons (opv (Ev.len Tryz.underlying23 (.t rfl) (fun w I => hxs w I.keeps)) ?_)))))
  refine cons (opv (Ev.move (.c (v := I 0) rfl)) ?_)
  refine nil (pN (block (loop (X := Int × OV) (fun x : Int × OV => (0 ≤ x.1 ∧ x.1 ≤ xs.length)) (fun x : Int × OV => [(1, true, .map (some b)), (2, true, (clo fk []).v), (3, true, (clo ft cap).v), (12, true, u), (13, true, I xs.length), (14, true, I x.1)]) (fun x : Int × OV => [S0 x.2 (cs ++ goneL SRoute.eqb kf m mk (xs.take x.1.toNat))]) (fun x : Int × OV => ((xs.length : Int) - x.1).toNat) (0, o) ?_ (by repeat first | exact Sub.nil | refine Sub.cons rfl ?_) (by simp only [show (0 : Int).toNat = 0 from rfl, List.take_zero, goneL, List.filter_nil, List.map_nil, List.append_nil]; repeat first | exact sR | exact sN | apply sC | apply sS | apply sA) (fun x hx => ?_))))
  · omega
  obtain ⟨i, p⟩ := x
  have hi : 0 ≤ i ∧ i ≤ xs.length := hx
  clear hx
  show Sat _ _ [(1, true, .map (some b)), (2, true, (clo fk []).v), (3, true, (clo ft cap).v), (12, true, u), (13, true, I xs.length), (14, true, I i)] [S0 p (cs ++ goneL SRoute.eqb kf m mk (xs.take i.toNat))]
  refine seq (region (cons (opv (Ev.lss_i (.t rfl) (.t rfl)) ?_)))
  refine nil (pN (seq ?_))
  first | refine condD rfl (fun h0 => ?_) (fun h0 => ?_) | refine cond rfl (fun h0 => ?_) (fun h0 => ?_)
  · try simp only [nb] at h0
    refine skip (pN (seq (block (seq (region (cons (opv (Ev.indexAddr Tryz.underlying23 ty52 (.t rfl) (.t rfl) (fun w I => hxs w I.keeps) (fun _ => by omega)) ?_)))))))
    refine cons (opv (Ev.loadS0 ty52 (.t rfl) (fun w I => hxs w I.keeps) (fun _ => by omega)) ?_)
    refine cons (alloc z52 (fun b1 => ?_))
    refine cons (stv ty52 (Lens.id _) (.t rfl) (.t rfl) ?_)
    refine nil (pN (seq (region ?_)))
    have hst := goneL_step SRoute.eqb kf m mk xs eRoute.zero (i := i) (by omega)
    refine cons (opv (Ev.move (.t rfl)) (cons (opv (Ev.move (.t rfl)) (cons (opv (Ev.ldv ty52 (.t rfl) (Lens.id _)) ?_)))))
    refine cons (callcv (.t rfl) hek (.cons (.t rfl) .nil) (fun w I => hk (xs.getD i.toNat eRoute.zero) w trivial I.keeps) ?_)
    refine cons (opv (Ev.lookupT Tryz.underlying128 Tryz.underlying52 key52 z3 (.t rfl) (.t rfl) (fun _ => (fun w I => hm w I.keeps))) ?_)
    refine cons (opv (Ev.move (.t rfl)) (cons (opv (Ev.extract (.t rfl) rfl) (cons (opv (Ev.extract (.t rfl) rfl) (cons (opv (Ev.assign (.t rfl)) (cons (opv (Ev.assign (.t rfl)) (nil (pN (seq (region (cons (opv (Ev.move (.t rfl)) (cons (opv (Ev.not (.t rfl)) ?_)))))))))))))))))
    refine nil (pN ?_)
    first | refine condD rfl (fun h1 => ?_) (fun h1 => ?_) | refine cond rfl (fun h1 => ?_) (fun h1 => ?_)
    · try simp only [nb] at h1
      have hq : (findV SRoute.eqb (kf (xs.getD i.toNat eRoute.zero)) m).isNone = true := by simpa using h1
      refine region (cons (opv (Ev.move (.t rfl)) (cons (opv (Ev.ldv ty52 (.t rfl) (Lens.id _)) ?_))))
      refine cons (callcr (X := OV) (r := S0 p (cs ++ goneL SRoute.eqb kf m mk (xs.take i.toNat))) (r' := fun o2 => S0 o2 (cs ++ goneL SRoute.eqb kf m mk (xs.take i.toNat) ++ [mk (xs.getD i.toNat eRoute.zero)])) (fun _ => True) (fun _ => .tuple #[]) (fun _ => by repeat first | exact Upd.head | apply Upd.tail | apply Upd.right) (.t rfl) het (.cons (.t rfl) .nil) (fun w I => ht (xs.getD i.toNat eRoute.zero) p _ w trivial (by have := goneL_len SRoute.eqb kf m mk (xs.take i.toNat); simp only [List.length_append, List.length_take] at this ⊢; omega) (at_mem (by repeat first | exact mH | apply mT | apply mA) w I)) (fun o3 _ => ?_))
      refine nil (bN (pN (region (cons (opv (Ev.add_i (.t rfl) (.c (v := I 1) rfl) (fun _ => by omega)) ?_)))))
      refine cons (opv (Ev.move (.t rfl)) (nil (pN (next (X := Int × OV) (i + 1, _) ?_ ?_ (by repeat first | exact Sub.nil | refine Sub.cons rfl ?_) (by rw [hst]; (first | rw [if_pos hq, ← List.append_assoc] | rw [if_neg hq, List.append_nil]); repeat first | exact sR | exact sN | apply sC | apply sS | apply sA)))))
      · try dsimp only
        omega
      · try dsimp only
        omega
    · try simp only [nb] at h1
      have hq : ¬ (findV SRoute.eqb (kf (xs.getD i.toNat eRoute.zero)) m).isNone = true := fun e => by
        rw [Option.isNone_iff_eq_none] at e
        rw [e] at h1
        simp at h1
      refine skip (bN (pN (region (cons (opv (Ev.add_i (.t rfl) (.c (v := I 1) rfl) (fun _ => by omega)) ?_)))))
      refine cons (opv (Ev.move (.t rfl)) (nil (pN (next (X := Int × OV) (i + 1, _) ?_ ?_ (by repeat first | exact Sub.nil | refine Sub.cons rfl ?_) (by rw [hst]; (first | rw [if_pos hq, ← List.append_assoc] | rw [if_neg hq, List.append_nil]); repeat first | exact sR | exact sN | apply sC | apply sS | apply sA)))))
      · try dsimp only
        omega
      · try dsimp only
        omega
  · try simp only [nb] at h0
    refine exit (pX (pX (bX (done' rfl .nil (fun w I => ?_)))))
    have et : xs.take i.toNat = xs := List.take_of_length_le (by omega)
    rw [et] at I
    exact retR (r' := fun o2 => S0 o2 (cs ++ goneL SRoute.eqb kf m mk xs)) _ trivial rfl (List.mem_singleton_self _) w (I.sub (by repeat first | exact sR | exact sN | apply sC | apply sS | apply sA))

theorem gone_50_52 (fk ft : Nat) (cap : List Value) (kf : SRoute → SPrefix) (mk : SRoute → SChange) (b : Nat) (m : List (SPrefix × Int)) (S0 : OV → List SChange → Res) (o : OV) (cs : List SChange) (u : Value) (xs : List SRoute) (w : World) (hek : Gx.Enters Tryz.prog fk) (het : Gx.Enters Tryz.prog ft) (h : At (S0 o cs) w) (hxs : ∀ w1, Keeps (S0 o cs).foot w w1 → IsSl eRoute w1 u xs) (hm : ∀ w1, Keeps (S0 o cs).foot w w1 → MapAt w1 b ePrefix iE m) (hk : FnAt Tryz.prog fk [] (S0 o cs).foot w eRoute ePrefix (fun _ => True) kf) (ht : TellL Tryz.prog ft cap 100000 eRoute S0 (fun _ => True) mk) (hn : cs.length + xs.length < 100000) : Calls Tryz.prog 79 #[u, .map (some b), (clo fk []).v, (clo ft cap).v] w (RetR w (S0 o cs) (fun _ : OV => True) (fun _ => .tuple #[]) (fun o2 => S0 o2 (cs ++ goneL SPrefix.eqb kf m mk xs))) := by
  have hle := (hxs w (Keeps.refl _ _)).le
  refine enter (S0 o cs).foot 32 [S0 o cs] Tryz.func79 rfl rfl (Nat.le_of_ble_eq_true rfl) (start_at h) ?_
  refine seq (region (cons (opv (Ev.move (.t rfl)) (cons (opv (Ev.len Tryz.underlying23 (.t rfl) (fun w I => hxs w I.keeps)) ?_)))))
  refine cons (opv (Ev.move (.c (v := I 0) rfl)) ?_)
  refine nil (pN (block (loop (X := Int × OV) (fun x : Int × OV => (0 ≤ x.1 ∧ x.1 ≤ xs.length)) (fun x : Int × OV => [(1, true, .map (some b)), (2, true, (clo fk []).v), (3, true, (clo ft cap).v), (12, true, u), (13, true, I xs.length), (14, true, I x.1)]) (fun x : Int × OV => [S0 x.2 (cs ++ goneL SPrefix.eqb kf m mk (xs.take x.1.toNat))]) (fun x : Int × OV => ((xs.length : Int) - x.1).toNat) (0, o) ?_ (by repeat first | exact Sub.nil | refine Sub.cons rfl ?_) (by simp only [show (0 : Int).toNat = 0 from rfl, List.take_zero, goneL, List.filter_nil, List.map_nil, List.append_nil]; repeat first | exact sR | exact sN | apply sC | apply sS | apply sA) (fun x hx => ?_))))
  · omega
  obtain ⟨i, p⟩ := x
  have hi : 0 ≤ i ∧ i ≤ xs.length := hx
  clear hx
  show Sat _ _ [(1, true, .map (some b)), (2, true, (clo fk []).v), (3, true, (clo ft cap).v), (12, true, u), (13, true, I xs.length), (14, true, I i)] [S0 p (cs ++ goneL SPrefix.eqb kf m mk (xs.take i.toNat))]
  refine seq (region (cons (opv (Ev.lss_i (.t rfl) (.t rfl)) ?_)))
  refine nil (pN (seq ?_))
  first | refine condD rfl (fun h0 => ?_) (fun h0 => ?_) | refine cond rfl (fun h0 => ?_) (fun h0 => ?_)
  · try simp only [nb] at h0
    refine skip (pN (seq (block (seq (region (cons (opv (Ev.indexAddr Tryz.underlying23 ty52 (.t rfl) (.t rfl) (fun w I => hxs w I.keeps) (fun _ => by omega)) ?_)))))))
    refine cons (opv (Ev.loadS0 ty52 (.t rfl) (fun w I => hxs w I.keeps) (fun _ => by omega)) ?_)
    refine cons (alloc z52 (fun b1 => ?_))
    refine cons (stv ty52 (Lens.id _) (.t rfl) (.t rfl) ?_)
    refine nil (pN (seq (region ?_)))
    have hst := goneL_step SPrefix.eqb kf m mk xs eRoute.zero (i := i) (by omega)
    refine cons (opv (Ev.move (.t rfl)) (cons (opv (Ev.move (.t rfl)) (cons (opv (Ev.ldv ty52 (.t rfl) (Lens.id _)) ?_)))))
    refine cons (callcv (.t rfl) hek (.cons (.t rfl) .nil) (fun w I => hk (xs.getD i.toNat eRoute.zero) w trivial I.keeps) ?_)
    refine cons (opv (Ev.lookupT Tryz.underlying81 Tryz.underlying50 key50 z3 (.t rfl) (.t rfl) (fun _ => (fun w I => hm w I.keeps))) ?_)
    refine cons (opv (Ev.move (.t rfl)) (cons (opv (Ev.extract (.t rfl) rfl) (cons (opv (Ev.extract (.t rfl) rfl) (cons (opv (Ev.assign (.t rfl)) (cons (opv (Ev.assign (.t rfl)) (nil (pN (seq (region (cons (opv (Ev.move (.t rfl)) (cons (opv (Ev.not (.t rfl)) ?_)))))))))))))))))
    refine nil (pN ?_)
    first | refine condD rfl (fun h1 => ?_) (fun h1 => ?_) | refine cond rfl (fun h1 => ?_) (fun h1 => ?_)
    · try simp only [nb] at h1
      have hq : (findV SPrefix.eqb (kf (xs.getD i.toNat eRoute.zero)) m).isNone = true := by simpa using h1
      refine region (cons (opv (Ev.move (.t rfl)) (cons (opv (Ev.ldv ty52 (.t rfl) (Lens.id _)) ?_))))
      refine cons (callcr (X := OV) (r := S0 p (cs ++ goneL SPrefix.eqb kf m mk (xs.take i.toNat))) (r' := fun o2 => S0 o2 (cs ++ goneL SPrefix.eqb kf m mk (xs.take i.toNat) ++ [mk (xs.getD i.toNat eRoute.zero)])) (fun _ => True) (fun _ => .tuple #[]) (fun _ => by repeat first | exact Upd.head | apply Upd.tail | apply Upd.right) (.t rfl) het (.cons (.t rfl) .nil) (fun w I => ht (xs.getD i.toNat eRoute.zero) p _ w trivial (by have := goneL_len SPrefix.eqb kf m mk (xs.take i.toNat); simp only [List.length_append, List.length_take] at this ⊢; omega) (at_mem (by repeat first | exact mH | apply mT | apply mA) w I)) (fun o3 _ => ?_))
      refine nil (bN (pN (region (cons (opv (Ev.add_i (.t rfl) (.c (v := I 1) rfl) (fun _ => by omega)) ?_)))))
      refine cons (opv (Ev.move (.t rfl)) (nil (pN (next (X := Int × OV) (i + 1, _) ?_ ?_ (by repeat first | exact Sub.nil | refine Sub.cons rfl ?_) (by rw [hst]; (first | rw [if_pos hq, ← List.append_assoc] | rw [if_neg hq, List.append_nil]); repeat first | exact sR | exact sN | apply sC | apply sS | apply sA)))))
      · try dsimp only
        omega
      · try dsimp only
        omega
    · try simp only [nb] at h1
      have hq : ¬ (findV SPrefix.eqb (kf (xs.getD i.toNat eRoute.zero)) m).isNone = true := fun e => by
        rw [Option.isNone_iff_eq_none] at e
        rw [e] at h1
        simp at h1
      refine skip (bN (pN (region (cons (opv (Ev.add_i (.t rfl) (.c (v := I 1) rfl) (fun _ => by omega)) ?_)))))
      refine cons (opv (Ev.move (.t rfl)) (nil (pN (next (X := Int × OV) (i + 1, _) ?_ ?_ (by repeat first | exact Sub.nil | refine Sub.cons rfl ?_) (by rw [hst]; (first | rw [if_pos hq, ← List.append_assoc] | rw [if_neg hq, List.append_nil]); repeat first | exact sR | exact sN | apply sC | apply sS | apply sA)))))
      · try dsimp only
        omega
      · try dsimp only
        omega
  · try simp only [nb] at h0
    refine exit (pX (pX (bX (done' rfl .nil (fun w I => ?_)))))
    have et : xs.take i.toNat = xs := List.take_of_length_le (by omega)
    rw [et] at I
    exact retR (r' := fun o2 => S0 o2 (cs ++ goneL SPrefix.eqb kf m mk xs)) _ trivial rfl (List.mem_singleton_self _) w (I.sub (by repeat first | exact sR | exact sN | apply sC | apply sS | apply sA))

theorem gone_9_57 (fk ft : Nat) (cap : List Value) (kf : SMeterConf → ByteArray) (mk : SMeterConf → SChange) (b : Nat) (m : List (ByteArray × Int)) (S0 : OV → List SChange → Res) (o : OV) (cs : List SChange) (u : Value) (xs : List SMeterConf) (w : World) (hek : Gx.Enters Tryz.prog fk) (het : Gx.Enters Tryz.prog ft) (h : At (S0 o cs) w) (hxs : ∀ w1, Keeps (S0 o cs).foot w w1 → IsSl eMeterConf w1 u xs) (hm : ∀ w1, Keeps (S0 o cs).foot w w1 → MapAt w1 b sE iE m) (hk : FnAt Tryz.prog fk [] (S0 o cs).foot w eMeterConf sE (fun _ => True) kf) (ht : TellL Tryz.prog ft cap 100000 eMeterConf S0 (fun _ => True) mk) (hn : cs.length + xs.length < 100000) : Calls Tryz.prog 82 #[u, .map (some b), (clo fk []).v, (clo ft cap).v] w (RetR w (S0 o cs) (fun _ : OV => True) (fun _ => .tuple #[]) (fun o2 => S0 o2 (cs ++ goneL eqs kf m mk xs))) := by
  have hle := (hxs w (Keeps.refl _ _)).le
  refine enter (S0 o cs).foot 32 [S0 o cs] Tryz.func82 rfl rfl (Nat.le_of_ble_eq_true rfl) (start_at h) ?_
  refine seq (region (cons (opv (Ev.move (.t rfl)) (cons (opv (Ev.len Tryz.underlying25 (.t rfl) (fun w I => hxs w I.keeps)) ?_)))))
  refine cons (opv (Ev.move (.c (v := I 0) rfl)) ?_)
  refine nil (pN (block (loop (X := Int × OV) (fun x : Int × OV => (0 ≤ x.1 ∧ x.1 ≤ xs.length)) (fun x : Int × OV => [(1, true, .map (some b)), (2, true, (clo fk []).v), (3, true, (clo ft cap).v), (12, true, u), (13, true, I xs.length), (14, true, I x.1)]) (fun x : Int × OV => [S0 x.2 (cs ++ goneL eqs kf m mk (xs.take x.1.toNat))]) (fun x : Int × OV => ((xs.length : Int) - x.1).toNat) (0, o) ?_ (by repeat first | exact Sub.nil | refine Sub.cons rfl ?_) (by simp only [show (0 : Int).toNat = 0 from rfl, List.take_zero, goneL, List.filter_nil, List.map_nil, List.append_nil]; repeat first | exact sR | exact sN | apply sC | apply sS | apply sA) (fun x hx => ?_))))
  · omega
  obtain ⟨i, p⟩ := x
  have hi : 0 ≤ i ∧ i ≤ xs.length := hx
  clear hx
  show Sat _ _ [(1, true, .map (some b)), (2, true, (clo fk []).v), (3, true, (clo ft cap).v), (12, true, u), (13, true, I xs.length), (14, true, I i)] [S0 p (cs ++ goneL eqs kf m mk (xs.take i.toNat))]
  refine seq (region (cons (opv (Ev.lss_i (.t rfl) (.t rfl)) ?_)))
  refine nil (pN (seq ?_))
  first | refine condD rfl (fun h0 => ?_) (fun h0 => ?_) | refine cond rfl (fun h0 => ?_) (fun h0 => ?_)
  · try simp only [nb] at h0
    refine skip (pN (seq (block (seq (region (cons (opv (Ev.indexAddr Tryz.underlying25 ty57 (.t rfl) (.t rfl) (fun w I => hxs w I.keeps) (fun _ => by omega)) ?_)))))))
    refine cons (opv (Ev.loadS0 ty57 (.t rfl) (fun w I => hxs w I.keeps) (fun _ => by omega)) ?_)
    refine cons (alloc z57 (fun b1 => ?_))
    refine cons (stv ty57 (Lens.id _) (.t rfl) (.t rfl) ?_)
    refine nil (pN (seq (region ?_)))
    have hst := goneL_step eqs kf m mk xs eMeterConf.zero (i := i) (by omega)
    refine cons (opv (Ev.move (.t rfl)) (cons (opv (Ev.move (.t rfl)) (cons (opv (Ev.ldv ty57 (.t rfl) (Lens.id _)) ?_)))))
    refine cons (callcv (.t rfl) hek (.cons (.t rfl) .nil) (fun w I => hk (xs.getD i.toNat eMeterConf.zero) w trivial I.keeps) ?_)
    refine cons (opv (Ev.lookupT Tryz.underlying82 Tryz.underlying9 key9 z3 (.t rfl) (.t rfl) (fun _ => (fun w I => hm w I.keeps))) ?_)
    refine cons (opv (Ev.move (.t rfl)) (cons (opv (Ev.extract (.t rfl) rfl) (cons (opv (Ev.extract (.t rfl) rfl) (cons (opv (Ev.assign (.t rfl)) (cons (opv (Ev.assign (.t rfl)) (nil (pN (seq (region (cons (opv (Ev.move (.t rfl)) (cons (opv (Ev.not (.t rfl)) ?_)))))))))))))))))
    refine nil (pN ?_)
    first | refine condD rfl (fun h1 => ?_) (fun h1 => ?_) | refine cond rfl (fun h1 => ?_) (fun h1 => ?_)
    · try simp only [nb] at h1
      have hq : (findV eqs (kf (xs.getD i.toNat eMeterConf.zero)) m).isNone = true := by simpa using h1
      refine region (cons (opv (Ev.move (.t rfl)) (cons (opv (Ev.ldv ty57 (.t rfl) (Lens.id _)) ?_))))
      refine cons (callcr (X := OV) (r := S0 p (cs ++ goneL eqs kf m mk (xs.take i.toNat))) (r' := fun o2 => S0 o2 (cs ++ goneL eqs kf m mk (xs.take i.toNat) ++ [mk (xs.getD i.toNat eMeterConf.zero)])) (fun _ => True) (fun _ => .tuple #[]) (fun _ => by repeat first | exact Upd.head | apply Upd.tail | apply Upd.right) (.t rfl) het (.cons (.t rfl) .nil) (fun w I => ht (xs.getD i.toNat eMeterConf.zero) p _ w trivial (by have := goneL_len eqs kf m mk (xs.take i.toNat); simp only [List.length_append, List.length_take] at this ⊢; omega) (at_mem (by repeat first | exact mH | apply mT | apply mA) w I)) (fun o3 _ => ?_))
      refine nil (bN (pN (region (cons (opv (Ev.add_i (.t rfl) (.c (v := I 1) rfl) (fun _ => by omega)) ?_)))))
      refine cons (opv (Ev.move (.t rfl)) (nil (pN (next (X := Int × OV) (i + 1, _) ?_ ?_ (by repeat first | exact Sub.nil | refine Sub.cons rfl ?_) (by rw [hst]; (first | rw [if_pos hq, ← List.append_assoc] | rw [if_neg hq, List.append_nil]); repeat first | exact sR | exact sN | apply sC | apply sS | apply sA)))))
      · try dsimp only
        omega
      · try dsimp only
        omega
    · try simp only [nb] at h1
      have hq : ¬ (findV eqs (kf (xs.getD i.toNat eMeterConf.zero)) m).isNone = true := fun e => by
        rw [Option.isNone_iff_eq_none] at e
        rw [e] at h1
        simp at h1
      refine skip (bN (pN (region (cons (opv (Ev.add_i (.t rfl) (.c (v := I 1) rfl) (fun _ => by omega)) ?_)))))
      refine cons (opv (Ev.move (.t rfl)) (nil (pN (next (X := Int × OV) (i + 1, _) ?_ ?_ (by repeat first | exact Sub.nil | refine Sub.cons rfl ?_) (by rw [hst]; (first | rw [if_pos hq, ← List.append_assoc] | rw [if_neg hq, List.append_nil]); repeat first | exact sR | exact sN | apply sC | apply sS | apply sA)))))
      · try dsimp only
        omega
      · try dsimp only
        omega
  · try simp only [nb] at h0
    refine exit (pX (pX (bX (done' rfl .nil (fun w I => ?_)))))
    have et : xs.take i.toNat = xs := List.take_of_length_le (by omega)
    rw [et] at I
    exact retR (r' := fun o2 => S0 o2 (cs ++ goneL eqs kf m mk xs)) _ trivial rfl (List.mem_singleton_self _) w (I.sub (by repeat first | exact sR | exact sN | apply sC | apply sS | apply sA))

theorem gone_9_59 (fk ft : Nat) (cap : List Value) (kf : SMirrorConf → ByteArray) (mk : SMirrorConf → SChange) (b : Nat) (m : List (ByteArray × Int)) (S0 : OV → List SChange → Res) (o : OV) (cs : List SChange) (u : Value) (xs : List SMirrorConf) (w : World) (hek : Gx.Enters Tryz.prog fk) (het : Gx.Enters Tryz.prog ft) (h : At (S0 o cs) w) (hxs : ∀ w1, Keeps (S0 o cs).foot w w1 → IsSl eMirrorConf w1 u xs) (hm : ∀ w1, Keeps (S0 o cs).foot w w1 → MapAt w1 b sE iE m) (hk : FnAt Tryz.prog fk [] (S0 o cs).foot w eMirrorConf sE (fun _ => True) kf) (ht : TellL Tryz.prog ft cap 100000 eMirrorConf S0 (fun _ => True) mk) (hn : cs.length + xs.length < 100000) : Calls Tryz.prog 85 #[u, .map (some b), (clo fk []).v, (clo ft cap).v] w (RetR w (S0 o cs) (fun _ : OV => True) (fun _ => .tuple #[]) (fun o2 => S0 o2 (cs ++ goneL eqs kf m mk xs))) := by
  have hle := (hxs w (Keeps.refl _ _)).le
  refine enter (S0 o cs).foot 32 [S0 o cs] Tryz.func85 rfl rfl (Nat.le_of_ble_eq_true rfl) (start_at h) ?_
  refine seq (region (cons (opv (Ev.move (.t rfl)) (cons (opv (Ev.len Tryz.underlying26 (.t rfl) (fun w I => hxs w I.keeps)) ?_)))))
  refine cons (opv (Ev.move (.c (v := I 0) rfl)) ?_)
  refine nil (pN (block (loop (X := Int × OV) (fun x : Int × OV => (0 ≤ x.1 ∧ x.1 ≤ xs.length)) (fun x : Int × OV => [(1, true, .map (some b)), (2, true, (clo fk []).v), (3, true, (clo ft cap).v), (12, true, u), (13, true, I xs.length), (14, true, I x.1)]) (fun x : Int × OV => [S0 x.2 (cs ++ goneL eqs kf m mk (xs.take x.1.toNat))]) (fun x : Int × OV => ((xs.length : Int) - x.1).toNat) (0, o) ?_ (by repeat first | exact Sub.nil | refine Sub.cons rfl ?_) (by simp only [show (0 : Int).toNat = 0 from rfl, List.take_zero, goneL, List.filter_nil, List.map_nil, List.append_nil]; repeat first | exact sR | exact sN | apply sC | apply sS | apply sA) (fun x hx => ?_))))
  · omega
  obtain ⟨i, p⟩ := x
  have hi : 0 ≤ i ∧ i ≤ xs.length := hx
  clear hx
  show Sat _ _ [(1, true, .map (some b)), (2, true, (clo fk []).v), (3, true, (clo ft cap).v), (12, true, u), (13, true, I xs.length), (14, true, I i)] [S0 p (cs ++ goneL eqs kf m mk (xs.take i.toNat))]
  refine seq (region (cons (opv (Ev.lss_i (.t rfl) (.t rfl)) ?_)))
  refine nil (pN (seq ?_))
  first | refine condD rfl (fun h0 => ?_) (fun h0 => ?_) | refine cond rfl (fun h0 => ?_) (fun h0 => ?_)
  · try simp only [nb] at h0
    refine skip (pN (seq (block (seq (region (cons (opv (Ev.indexAddr Tryz.underlying26 ty59 (.t rfl) (.t rfl) (fun w I => hxs w I.keeps) (fun _ => by omega)) ?_)))))))
    refine cons (opv (Ev.loadS0 ty59 (.t rfl) (fun w I => hxs w I.keeps) (fun _ => by omega)) ?_)
    refine cons (alloc z59 (fun b1 => ?_))
    refine cons (stv ty59 (Lens.id _) (.t rfl) (.t rfl) ?_)
    refine nil (pN (seq (region ?_)))
    have hst := goneL_step eqs kf m mk xs eMirrorConf.zero (i := i) (by omega)
    refine cons (opv (Ev.move (.t rfl)) (cons (opv (Ev.move (.t rfl)) (cons (opv (Ev.ldv ty59 (.t rfl) (Lens.id _)) ?_)))))
    refine cons (callcv (.t rfl) hek (.cons (.t rfl) .nil) (fun w I => hk (xs.getD i.toNat eMirrorConf.zero) w trivial I.keeps) ?_)
    refine cons (opv (Ev.lookupT Tryz.underlying82 Tryz.underlying9 key9 z3 (.t rfl) (.t rfl) (fun _ => (fun w I => hm w I.keeps))) ?_)
    refine cons (opv (Ev.move (.t rfl)) (cons (opv (Ev.extract (.t rfl) rfl) (cons (opv (Ev.extract (.t rfl) rfl) (cons (opv (Ev.assign (.t rfl)) (cons (opv (Ev.assign (.t rfl)) (nil (pN (seq (region (cons (opv (Ev.move (.t rfl)) (cons (opv (Ev.not (.t rfl)) ?_)))))))))))))))))
    refine nil (pN ?_)
    first | refine condD rfl (fun h1 => ?_) (fun h1 => ?_) | refine cond rfl (fun h1 => ?_) (fun h1 => ?_)
    · try simp only [nb] at h1
      have hq : (findV eqs (kf (xs.getD i.toNat eMirrorConf.zero)) m).isNone = true := by simpa using h1
      refine region (cons (opv (Ev.move (.t rfl)) (cons (opv (Ev.ldv ty59 (.t rfl) (Lens.id _)) ?_))))
      refine cons (callcr (X := OV) (r := S0 p (cs ++ goneL eqs kf m mk (xs.take i.toNat))) (r' := fun o2 => S0 o2 (cs ++ goneL eqs kf m mk (xs.take i.toNat) ++ [mk (xs.getD i.toNat eMirrorConf.zero)])) (fun _ => True) (fun _ => .tuple #[]) (fun _ => by repeat first | exact Upd.head | apply Upd.tail | apply Upd.right) (.t rfl) het (.cons (.t rfl) .nil) (fun w I => ht (xs.getD i.toNat eMirrorConf.zero) p _ w trivial (by have := goneL_len eqs kf m mk (xs.take i.toNat); simp only [List.length_append, List.length_take] at this ⊢; omega) (at_mem (by repeat first | exact mH | apply mT | apply mA) w I)) (fun o3 _ => ?_))
      refine nil (bN (pN (region (cons (opv (Ev.add_i (.t rfl) (.c (v := I 1) rfl) (fun _ => by omega)) ?_)))))
      refine cons (opv (Ev.move (.t rfl)) (nil (pN (next (X := Int × OV) (i + 1, _) ?_ ?_ (by repeat first | exact Sub.nil | refine Sub.cons rfl ?_) (by rw [hst]; (first | rw [if_pos hq, ← List.append_assoc] | rw [if_neg hq, List.append_nil]); repeat first | exact sR | exact sN | apply sC | apply sS | apply sA)))))
      · try dsimp only
        omega
      · try dsimp only
        omega
    · try simp only [nb] at h1
      have hq : ¬ (findV eqs (kf (xs.getD i.toNat eMirrorConf.zero)) m).isNone = true := fun e => by
        rw [Option.isNone_iff_eq_none] at e
        rw [e] at h1
        simp at h1
      refine skip (bN (pN (region (cons (opv (Ev.add_i (.t rfl) (.c (v := I 1) rfl) (fun _ => by omega)) ?_)))))
      refine cons (opv (Ev.move (.t rfl)) (nil (pN (next (X := Int × OV) (i + 1, _) ?_ ?_ (by repeat first | exact Sub.nil | refine Sub.cons rfl ?_) (by rw [hst]; (first | rw [if_pos hq, ← List.append_assoc] | rw [if_neg hq, List.append_nil]); repeat first | exact sR | exact sN | apply sC | apply sS | apply sA)))))
      · try dsimp only
        omega
      · try dsimp only
        omega
  · try simp only [nb] at h0
    refine exit (pX (pX (bX (done' rfl .nil (fun w I => ?_)))))
    have et : xs.take i.toNat = xs := List.take_of_length_le (by omega)
    rw [et] at I
    exact retR (r' := fun o2 => S0 o2 (cs ++ goneL eqs kf m mk xs)) _ trivial rfl (List.mem_singleton_self _) w (I.sub (by repeat first | exact sR | exact sN | apply sC | apply sS | apply sA))
end Go.Proofs.YtnoobdijbpmjkaaGreat
