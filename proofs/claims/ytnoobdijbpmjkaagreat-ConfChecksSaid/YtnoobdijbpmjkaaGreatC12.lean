/- conf -/
import Derived.Test.YtnoobdijbpmjkaaGreatC11
set_option linter.unusedVariables false
set_option linter.unusedSimpArgs false
namespace Go.Proofs.YtnoobdijbpmjkaaGreat
open Go Go.Gx

/-- The slices of a configuration of one's own. -/
structure CB where
  o1 : OV
  o2 : OV
  o3 : OV
  o4 : OV
  o5 : OV
def CB.c (x : CB) (d : Int) : SConf := ⟨x.o1, x.o2, x.o3, x.o4, x.o5, d⟩
def CB.R (x : CB) (l : CL) : List Res := [OwnS x.o5.v eMirrorConf l.xs 59, OwnS x.o4.v eMeterConf l.ms 57, OwnS x.o3.v eRule l.us 76, OwnS x.o2.v eRoute l.rs 52, OwnS x.o1.v iE l.ps 3]
structure CL.Small (l : CL) : Prop where
  ps : l.ps.length ≤ 1048576
  rs : l.rs.length ≤ 1048576
  us : l.us.length ≤ 1048576
  ms : l.ms.length ≤ 1048576
  xs : l.xs.length ≤ 1048576

theorem z28 : (Tryz.prog.info? 28).bind (·.zero) = some (eConf.val eConf.zero) := by kernel_rfl

theorem en48 : Gx.Enters Tryz.prog 48 := Gx.Enters.mk' (by kernel_rfl)

theorem en49 : Gx.Enters Tryz.prog 49 := Gx.Enters.mk' (by kernel_rfl)

theorem en50 : Gx.Enters Tryz.prog 50 := Gx.Enters.mk' (by kernel_rfl)

theorem en51 : Gx.Enters Tryz.prog 51 := Gx.Enters.mk' (by kernel_rfl)

theorem en52 : Gx.Enters Tryz.prog 52 := Gx.Enters.mk' (by kernel_rfl)

theorem ty28 : TyOK Tryz.prog 28 eConf := TyOK.mk' (by kernel_rfl) (by kernel_rfl)

theorem copy_ok (c : SConf) (l : CL) (w : World) (hc : ConfAt w c l) (hs : l.Small) : Calls Tryz.prog 16 #[eConf.val c] w (RetN w (fun _ : CB => True) (fun x => eConf.val (x.c c.default)) (fun x => x.R l)) := by
  refine enter0 21 Tryz.func16 rfl rfl (Nat.le_of_ble_eq_true rfl) ?_
  refine seq (region (cons (box (E := eConf) (.t rfl) (fun b1 => ?_))))
  refine cons (alloc z28 (fun b2 => ?_))
  refine nil (pN (seq (drawS 2 rfl (by repeat first | exact Rem.head | apply Rem.tail) (by kernel_rfl) ?_)))
  refine tk 0 rfl (Ev.fieldAddr (o := 0) (.t rfl) (by kernel_rfl)) ?_
  refine tk 1 rfl (Ev.load (xv := c.ports) ty22 (.t rfl) (ptsVar (by repeat first | exact mH | apply mT | apply mA) SConf.l_ports)) ?_
  refine tk 3 rfl (Ev.fieldAddr (o := 1) (.t rfl) (by kernel_rfl)) ?_
  refine tk 4 rfl (Ev.load (xv := c.routes) ty23 (.t rfl) (ptsVar (by repeat first | exact mH | apply mT | apply mA) SConf.l_routes)) ?_
  refine tk 6 rfl (Ev.fieldAddr (o := 2) (.t rfl) (by kernel_rfl)) ?_
  refine tk 7 rfl (Ev.load (xv := c.rules) ty24 (.t rfl) (ptsVar (by repeat first | exact mH | apply mT | apply mA) SConf.l_rules)) ?_
  refine tk 9 rfl (Ev.fieldAddr (o := 3) (.t rfl) (by kernel_rfl)) ?_
  refine tk 10 rfl (Ev.load (xv := c.meters) ty25 (.t rfl) (ptsVar (by repeat first | exact mH | apply mT | apply mA) SConf.l_meters)) ?_
  refine tk 12 rfl (Ev.fieldAddr (o := 4) (.t rfl) (by kernel_rfl)) ?_
  refine tk 13 rfl (Ev.load (xv := c.mirrors) ty26 (.t rfl) (ptsVar (by repeat first | exact mH | apply mT | apply mA) SConf.l_mirrors)) ?_
  refine tk 15 rfl (Ev.fieldAddr (o := 5) (.t rfl) (by kernel_rfl)) ?_
  refine tk 16 rfl (Ev.load (xv := c.default) ty3 (.t rfl) (ptsVar (by repeat first | exact mH | apply mT | apply mA) SConf.l_default)) ?_
  refine al1 2 rfl ((callo en48 (.cons (.t rfl) .nil) (fun w I => clone_3 _ _ w (hc.keep0 I.keeps).ps (by have := hs.ps; omega)) (fun v3 => ?_)))
  refine hdn (al1 5 rfl ((callo en49 (.cons (.t rfl) .nil) (fun w I => clone_52 _ _ w (hc.keep0 I.keeps).rs (by have := hs.rs; omega)) (fun v4 => ?_))))
  refine hdn (al1 8 rfl ((callo en50 (.cons (.t rfl) .nil) (fun w I => clone_76 _ _ w (hc.keep0 I.keeps).us (by have := hs.us; omega)) (fun v5 => ?_))))
  refine hdn (al1 11 rfl ((callo en51 (.cons (.t rfl) .nil) (fun w I => clone_57 _ _ w (hc.keep0 I.keeps).ms (by have := hs.ms; omega)) (fun v6 => ?_))))
  refine hdn (al1 14 rfl ((callo en52 (.cons (.t rfl) .nil) (fun w I => clone_59 _ _ w (hc.keep0 I.keeps).xs (by have := hs.xs; omega)) (fun v7 => ?_))))
  refine hdn (tk 17 rfl (Ev.buildS (fs := _) (places := [(0, 1), (1, 1), (2, 1), (3, 1), (4, 1), (5, 1)]) z28 rfl Tryz.underlying28 (by kernel_rfl) (.cons (.t rfl) (.cons (.t rfl) (.cons (.t rfl) (.cons (.t rfl) (.cons (.t rfl) (.cons (.t rfl) .nil)))))) (Fills.cons SConf.l_ports rfl (Fills.cons SConf.l_routes rfl (Fills.cons SConf.l_rules rfl (Fills.cons SConf.l_meters rfl (Fills.cons SConf.l_mirrors rfl (Fills.cons SConf.l_default rfl Fills.nil))))))) ?_)
  refine al1 18 rfl ((stv ty28 (Lens.id _) (.t rfl) (.t rfl) ?_))
  refine hdn (ovr (pN (ret (done rfl (.cell rfl (fun w I => run_loadVar_pts ty28 (ptsVar (by repeat first | exact mH | apply mT | apply mA) (Lens.id _) w I)) .nil) (fun w I => ?_)))))
  exact retN (⟨v3, v4, v5, v6, v7⟩ : CB) trivial rfl (by exact (by repeat first | exact sR | exact sN | apply sC | apply sS | apply sA)) w I
end Go.Proofs.YtnoobdijbpmjkaaGreat
