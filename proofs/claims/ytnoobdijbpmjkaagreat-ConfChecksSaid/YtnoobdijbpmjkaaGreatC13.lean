/- conf -/
import Derived.Test.YtnoobdijbpmjkaaGreatC12
set_option linter.unusedVariables false
set_option linter.unusedSimpArgs false
namespace Go.Proofs.YtnoobdijbpmjkaaGreat
open Go Go.Gx

/-- Are they the same? -/
def sameB (a b : CL) (d e : Int) : Bool := decide (d = e) && (decide (a.ps = b.ps) && (decide (a.us = b.us) && (alikeB SRoute.eqb a.rs b.rs && (alikeB SMeterConf.eqb a.ms b.ms && alikeB SMirrorConf.eqb a.xs b.xs))))

theorem en53 : Gx.Enters Tryz.prog 53 := Gx.Enters.mk' (by kernel_rfl)

theorem en54 : Gx.Enters Tryz.prog 54 := Gx.Enters.mk' (by kernel_rfl)

theorem en55 : Gx.Enters Tryz.prog 55 := Gx.Enters.mk' (by kernel_rfl)

theorem en56 : Gx.Enters Tryz.prog 56 := Gx.Enters.mk' (by kernel_rfl)

theorem en57 : Gx.Enters Tryz.prog 57 := Gx.Enters.mk' (by kernel_rfl)

theorem same_ok (a b : SConf) (l k : CL) (w : World) (ha : ConfAt w a l) (hb : ConfAt w b k) (hl : l.Small) (hk : k.Small) : Calls Tryz.prog 21 #[eConf.val a, eConf.val b] w (RetV w (.bool (sameB l k a.default b.default))) := by
  refine enter0 45 Tryz.func21 rfl rfl (Nat.le_of_ble_eq_true rfl) ?_
  refine seq (region (cons (box (E := eConf) (.t rfl) (fun b1 => ?_))))
  refine cons (box (E := eConf) (.t rfl) (fun b2 => ?_))
  refine cons (opv (Ev.assign (.c (v := .bool false) rfl)) ?_)
  refine nil (pN (seq (region (cons (opv (Ev.fieldAddr (o := 5) (.t rfl) (by kernel_rfl)) ?_)))))
  refine cons (opv (Ev.load (xv := a.default) ty3 (.t rfl) (ptsVar (by repeat first | exact mH | apply mT | apply mA) SConf.l_default)) ?_)
  refine cons (opv (Ev.fieldAddr (o := 5) (.t rfl) (by kernel_rfl)) ?_)
  refine cons (opv (Ev.load (xv := b.default) ty3 (.t rfl) (ptsVar (by repeat first | exact mH | apply mT | apply mA) SConf.l_default)) ?_)
  refine cons (opv (Ev.eql_i (.t rfl) (.t rfl)) ?_)
  refine cons (opv (Ev.move (.t rfl)) (cons (opg rfl rfl (Ev.fieldAddr (o := 0) (.t rfl) (by kernel_rfl)) ?_)))
  refine cons (opg rfl rfl (Ev.load (xv := a.ports) ty22 (.g rfl id) (ptsVar (by repeat first | exact mH | apply mT | apply mA) SConf.l_ports)) ?_)
  refine cons (opg rfl rfl (Ev.fieldAddr (o := 0) (.t rfl) (by kernel_rfl)) ?_)
  refine cons (opg rfl rfl (Ev.load (xv := b.ports) ty22 (.g rfl id) (ptsVar (by repeat first | exact mH | apply mT | apply mA) SConf.l_ports)) ?_)
  refine cons (callg rfl rfl en53 (.cons (.g rfl id) (.cons (.g rfl id) .nil)) (fun hg w I => equal_3 _ _ _ _ w (ha.keep0 I.keeps).ps (hb.keep0 I.keeps).ps) ?_)
  refine cons (opv (Ev.pickA (.t rfl) (fun {_} h => by cases h; rfl) ⟨_, rfl⟩ (by intro h1 h; first | (rw [h] <;> rfl) | (rw [h1, h] <;> rfl) | (rw [h, h1] <;> rfl) | simp_all) (.c (v := .bool false) rfl)) ?_)
  refine cons (opv (Ev.move (.t rfl)) (cons (opg rfl rfl (Ev.fieldAddr (o := 2) (.t rfl) (by kernel_rfl)) ?_)))
  refine cons (opg rfl rfl (Ev.load (xv := a.rules) ty24 (.g rfl id) (ptsVar (by repeat first | exact mH | apply mT | apply mA) SConf.l_rules)) ?_)
  refine cons (opg rfl rfl (Ev.fieldAddr (o := 2) (.t rfl) (by kernel_rfl)) ?_)
  refine cons (opg rfl rfl (Ev.load (xv := b.rules) ty24 (.g rfl id) (ptsVar (by repeat first | exact mH | apply mT | apply mA) SConf.l_rules)) ?_)
  refine cons (callg rfl rfl en54 (.cons (.g rfl id) (.cons (.g rfl id) .nil)) (fun hg w I => equal_76 _ _ _ _ w (ha.keep0 I.keeps).us (hb.keep0 I.keeps).us) ?_)
  refine cons (opv (Ev.pickA (.t rfl) (fun {_} h => by cases h; rfl) ⟨_, rfl⟩ (by intro h1 h; first | (rw [h] <;> rfl) | (rw [h1, h] <;> rfl) | (rw [h, h1] <;> rfl) | simp_all) (.c (v := .bool false) rfl)) ?_)
  refine cons (opv (Ev.move (.t rfl)) (cons (opg rfl rfl (Ev.fieldAddr (o := 1) (.t rfl) (by kernel_rfl)) ?_)))
  refine cons (opg rfl rfl (Ev.load (xv := a.routes) ty23 (.g rfl id) (ptsVar (by repeat first | exact mH | apply mT | apply mA) SConf.l_routes)) ?_)
  refine cons (opg rfl rfl (Ev.fieldAddr (o := 1) (.t rfl) (by kernel_rfl)) ?_)
  refine cons (opg rfl rfl (Ev.load (xv := b.routes) ty23 (.g rfl id) (ptsVar (by repeat first | exact mH | apply mT | apply mA) SConf.l_routes)) ?_)
  refine cons (callg rfl rfl en55 (.cons (.g rfl id) (.cons (.g rfl id) .nil)) (fun hg w I => alike_52 _ _ _ _ w (ha.keep0 I.keeps).rs (hb.keep0 I.keeps).rs (by have := hl.rs; omega) (by have := hk.rs; omega)) ?_)
  refine cons (opv (Ev.pickA (.t rfl) (fun {_} h => by cases h; rfl) ⟨_, rfl⟩ (by intro h1 h; first | (rw [h] <;> rfl) | (rw [h1, h] <;> rfl) | (rw [h, h1] <;> rfl) | simp_all) (.c (v := .bool false) rfl)) ?_)
  refine cons (opv (Ev.move (.t rfl)) (cons (opg rfl rfl (Ev.fieldAddr (o := 3) (.t rfl) (by kernel_rfl)) ?_)))
  refine cons (opg rfl rfl (Ev.load (xv := a.meters) ty25 (.g rfl id) (ptsVar (by repeat first | exact mH | apply mT | apply mA) SConf.l_meters)) ?_)
  refine cons (opg rfl rfl (Ev.fieldAddr (o := 3) (.t rfl) (by kernel_rfl)) ?_)
  refine cons (opg rfl rfl (Ev.load (xv := b.meters) ty25 (.g rfl id) (ptsVar (by repeat first | exact mH | apply mT | apply mA) SConf.l_meters)) ?_)
  refine cons (callg rfl rfl en56 (.cons (.g rfl id) (.cons (.g rfl id) .nil)) (fun hg w I => alike_57 _ _ _ _ w (ha.keep0 I.keeps).ms (hb.keep0 I.keeps).ms (by have := hl.ms; omega) (by have := hk.ms; omega)) ?_)
  refine cons (opv (Ev.pickA (.t rfl) (fun {_} h => by cases h; rfl) ⟨_, rfl⟩ (by intro h1 h; first | (rw [h] <;> rfl) | (rw [h1, h] <;> rfl) | (rw [h, h1] <;> rfl) | simp_all) (.c (v := .bool false) rfl)) ?_)
  refine cons (opv (Ev.move (.t rfl)) (cons (opg rfl rfl (Ev.fieldAddr (o := 4) (.t rfl) (by kernel_rfl)) ?_)))
  refine cons (opg rfl rfl (Ev.load (xv := a.mirrors) ty26 (.g rfl id) (ptsVar (by repeat first | exact mH | apply mT | apply mA) SConf.l_mirrors)) ?_)
  refine cons (opg rfl rfl (Ev.fieldAddr (o := 4) (.t rfl) (by kernel_rfl)) ?_)
  refine cons (opg rfl rfl (Ev.load (xv := b.mirrors) ty26 (.g rfl id) (ptsVar (by repeat first | exact mH | apply mT | apply mA) SConf.l_mirrors)) ?_)
  refine cons (callg rfl rfl en57 (.cons (.g rfl id) (.cons (.g rfl id) .nil)) (fun hg w I => alike_59 _ _ _ _ w (ha.keep0 I.keeps).xs (hb.keep0 I.keeps).xs (by have := hl.xs; omega) (by have := hk.xs; omega)) ?_)
  refine cons (opv (Ev.pickA (.t rfl) (fun {_} h => by cases h; rfl) ⟨_, rfl⟩ (by intro h1 h; first | (rw [h] <;> rfl) | (rw [h1, h] <;> rfl) | (rw [h, h1] <;> rfl) | simp_all) (.c (v := .bool false) rfl)) ?_)
  refine cons (opv (Ev.assign (.t rfl)) (nil (pN (ret (done rfl (.tmp rfl .nil) (retE ?_))))))
  unfold sameB; simp [Bool.and_assoc]
end Go.Proofs.YtnoobdijbpmjkaaGreat
