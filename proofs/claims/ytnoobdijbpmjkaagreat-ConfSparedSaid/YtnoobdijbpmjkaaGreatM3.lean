/- Part. -/
import Derived.Test.YtnoobdijbpmjkaaGreatM2
set_option linter.unusedVariables false
set_option linter.unusedSimpArgs false
namespace Go.Proofs.YtnoobdijbpmjkaaGreat
open Go Go.Gx
def defBad (d : Int) : Bool := !(decide (d = 1) || decide (d = 2) || decide (d = 4))
theorem defBad_eq (d : Int) : defBad d = (decide (¬ d = 1) && decide (¬ d = 2) && decide (¬ d = 4)) := by
  unfold defBad
  by_cases a : d = 1 <;> by_cases b : d = 2 <;> by_cases c : d = 4 <;> simp [a, b, c]
def thingsF (l : CL) : List SFault := ((((([] ++ listG (fun j0 : Nat => portE l.ps (l.ps.getD j0 iE.zero) j0) 0 l.ps.length 256) ++ listG (fun j0 : Nat => routeE l (l.rs.getD j0 eRoute.zero) j0) (0 + (l.ps.length : Int)) l.rs.length 1024) ++ listG (fun j0 : Nat => ruleE l (l.us.getD j0 eRule.zero) j0) ((0 + (l.ps.length : Int)) + (l.rs.length : Int)) l.us.length 256) ++ listG (fun j0 : Nat => meterE l (l.ms.getD j0 eMeterConf.zero) j0) (((0 + (l.ps.length : Int)) + (l.rs.length : Int)) + (l.us.length : Int)) l.ms.length 64) ++ listG (fun j0 : Nat => mirrorE l (l.xs.getD j0 eMirrorConf.zero) j0) ((((0 + (l.ps.length : Int)) + (l.rs.length : Int)) + (l.us.length : Int)) + (l.ms.length : Int)) l.xs.length 16)
def checkF (l : CL) (d : Int) : List SFault := thingsF l ++ (if defBad d = true then [⟨2, (((((0 + (l.ps.length : Int)) + (l.rs.length : Int)) + (l.us.length : Int)) + (l.ms.length : Int)) + (l.xs.length : Int))⟩] else [])
theorem listG_len (e : Nat → Int) (d : Int) (n most : Nat) : (listG e d n most).length ≤ most + 1 := by
  have := faultsUp_len e d (min n most)
  unfold listG
  rw [List.length_append]
  split <;> simp <;> omega
theorem thingsF_len (l : CL) : (thingsF l).length ≤ 1700 := by
  unfold thingsF
  simp only [List.length_append, List.length_nil]
  have h0 := listG_len (fun j0 : Nat => portE l.ps (l.ps.getD j0 iE.zero) j0) 0 l.ps.length 256
  have h1 := listG_len (fun j0 : Nat => routeE l (l.rs.getD j0 eRoute.zero) j0) (0 + (l.ps.length : Int)) l.rs.length 1024
  have h2 := listG_len (fun j0 : Nat => ruleE l (l.us.getD j0 eRule.zero) j0) ((0 + (l.ps.length : Int)) + (l.rs.length : Int)) l.us.length 256
  have h3 := listG_len (fun j0 : Nat => meterE l (l.ms.getD j0 eMeterConf.zero) j0) (((0 + (l.ps.length : Int)) + (l.rs.length : Int)) + (l.us.length : Int)) l.ms.length 64
  have h4 := listG_len (fun j0 : Nat => mirrorE l (l.xs.getD j0 eMirrorConf.zero) j0) ((((0 + (l.ps.length : Int)) + (l.rs.length : Int)) + (l.us.length : Int)) + (l.ms.length : Int)) l.xs.length 16
  omega
structure CL.Names (l : CL) : Prop where
  us : ∀ x ∈ l.us, x.name.size ≤ 9223372036854775807
  ms : ∀ x ∈ l.ms, x.name.size ≤ 9223372036854775807
  xs : ∀ x ∈ l.xs, x.name.size ≤ 9223372036854775807
def CL.n (l : CL) : Nat := l.ps.length + l.rs.length + l.us.length + l.ms.length + l.xs.length
theorem getD_in {α : Type} (l : List α) (i : Nat) (d : α) (h : i < l.length) : l.getD i d ∈ l := by simp [List.getD, h]
theorem en38 : Gx.Enters Tryz.prog 38 := Gx.Enters.mk' (by kernel_rfl)
theorem en40 : Gx.Enters Tryz.prog 40 := Gx.Enters.mk' (by kernel_rfl)
theorem en42 : Gx.Enters Tryz.prog 42 := Gx.Enters.mk' (by kernel_rfl)
theorem en44 : Gx.Enters Tryz.prog 44 := Gx.Enters.mk' (by kernel_rfl)
theorem en46 : Gx.Enters Tryz.prog 46 := Gx.Enters.mk' (by kernel_rfl)
theorem en36 : Gx.Enters Tryz.prog 36 := Gx.Enters.mk' (by kernel_rfl)
theorem z88 : (Tryz.prog.info? 88).bind (·.zero) = some (eConfFaults.val eConfFaults.zero) := by kernel_rfl
theorem en37 : Gx.Enters Tryz.prog 37 := Gx.Enters.mk' (by kernel_rfl)
theorem en39 : Gx.Enters Tryz.prog 39 := Gx.Enters.mk' (by kernel_rfl)
theorem en41 : Gx.Enters Tryz.prog 41 := Gx.Enters.mk' (by kernel_rfl)
theorem en43 : Gx.Enters Tryz.prog 43 := Gx.Enters.mk' (by kernel_rfl)
theorem en45 : Gx.Enters Tryz.prog 45 := Gx.Enters.mk' (by kernel_rfl)
theorem conf_check (c : SConf) (l : CL) (w : World) (hc : ConfAt w c l) (hn : l.Names) (hz : l.n ≤ 4611686018427387904) : Calls Tryz.prog 12 #[eConf.val c] w (RetO w eFault (checkF l c.default) 37) := by
  unfold CL.n at hz
  refine en0 69 Tryz.func12 ?_
  refine sg (cons (box (E := eConf) (.t rfl) (fun b1 => ?_)))
  refine co (Ev.assign (.c (v := (Go.Value.slice none 0 0)) rfl)) ?_
  refine nP (sg (co (Ev.ldv ty28 (.t rfl) (Lens.id _)) ?_))
  refine cons (calln (X := KB) (fun _ => True) (fun x => eConfKnown.val x.k) (fun x => x.R l) en36 (.cons (.t rfl) .nil) (fun w I => of_ok _ l w (hc.keep0 I.keeps)) (fun kb _ => ?_))
  refine cons (alloc z84 (fun b2 => ?_))
  refine cons (stv ty84 (Lens.id _) (.t rfl) (.t rfl) ?_)
  refine nP (sg (co (Ev.buildS (fs := _) (places := [(0, 1), (1, 1)]) z88 rfl Tryz.underlying88 (by kernel_rfl) .nil Fills.nil) ?_))
  refine cons (box (E := eConfFaults) (.t rfl) (fun b3 => ?_))
  refine asn rfl (nP (sg (takeNil eFault 37 ?_)))
  refine sepIn (r := Var b3 eConfFaults ⟨nilSl, 0⟩ 88) (s := OwnS nilSl.v eFault [] 37) (Rem.tail Rem.head) Rem.head ?_
  refine mv rfl (co (fA 0 (.t rfl)) ?_)
  refine co (Ev.ldv ty22 (.t rfl) SConf.l_ports) ?_
  refine co (Ev.makeFunc (f := 38) (.cons (.t rfl) .nil)) ?_
  refine cons (callr (X := OV) (r := FR b3 nilSl [] 0) (r' := fun o2 => FR b3 o2 (([] ++ listG (fun j0 : Nat => portE l.ps (l.ps.getD j0 iE.zero) j0) 0 l.ps.length 256)) (0 + (l.ps.length : Int))) (fun _ => True) (fun _ => .tuple #[]) (fun _ => Upd.head) List.mem_cons_self en37 (.cons (.t rfl) (.cons (.t rfl) (.cons (.c (v := I 256) rfl) (.cons (.t rfl) .nil)))) (fun w I => list_3 38 [] [.pointer (some ⟨b1, 0, none⟩)] (portE l.ps) (fun _ i => 0 ≤ i ∧ i < l.ps.length) b3 nilSl [] 0 _ l.ps 256 w en38 (at_mem List.mem_cons_self w I) (fun w1 k1 => hc.ps.keep0 (I.but Rem.head k1).keeps) (fun p i w1 h1 k1 => port1_ok c l.ps b1 p i w1 (by have I1 := I.but Rem.head k1; exact ptsVar (by repeat first | exact mH | apply mT | apply mA) (Lens.id _) w1 I1) (hc.ps.keep0 (I.but Rem.head k1).keeps) h1) (fun i hi => by constructor <;> omega) (by constructor <;> omega) (by simp only [List.length_append, List.length_nil]; omega)) (fun o1 _ => ?_))
  refine nP (sg (mv rfl (co (fA 1 (.t rfl)) ?_)))
  refine co (Ev.ldv ty23 (.t rfl) SConf.l_routes) ?_
  refine co (Ev.ldv ty84 (.t rfl) (Lens.id _)) ?_
  refine co (Ev.makeBound (f := 40) (.cons (.t rfl) .nil) .nil) ?_
  refine cons (callr (X := OV) (r := FR b3 o1 ([] ++ listG (fun j0 : Nat => portE l.ps (l.ps.getD j0 iE.zero) j0) 0 l.ps.length 256) (0 + (l.ps.length : Int))) (r' := fun o2 => FR b3 o2 ((([] ++ listG (fun j0 : Nat => portE l.ps (l.ps.getD j0 iE.zero) j0) 0 l.ps.length 256) ++ listG (fun j0 : Nat => routeE l (l.rs.getD j0 eRoute.zero) j0) (0 + (l.ps.length : Int)) l.rs.length 1024)) ((0 + (l.ps.length : Int)) + (l.rs.length : Int))) (fun _ => True) (fun _ => .tuple #[]) (fun _ => Upd.head) List.mem_cons_self en39 (.cons (.t rfl) (.cons (.t rfl) (.cons (.c (v := I 1024) rfl) (.cons (.t rfl) .nil)))) (fun w I => list_52 40 [eConfKnown.val kb.k] [] (routeE l) (fun _ _ => True) b3 o1 ([] ++ listG (fun j0 : Nat => portE l.ps (l.ps.getD j0 iE.zero) j0) 0 l.ps.length 256) (0 + (l.ps.length : Int)) _ l.rs 1024 w en40 (at_mem List.mem_cons_self w I) (fun w1 k1 => hc.rs.keep0 (I.but Rem.head k1).keeps) (fun x i w1 h1 k1 => route_ok kb l x i w1 (knownAt_own (fun r hr => by repeat first | exact List.mem_append_left _ hr | apply List.Mem.tail) w1 (I.but Rem.head k1))) (fun i hi => trivial) (by constructor <;> omega) (by have := listG_len (fun j0 : Nat => portE l.ps (l.ps.getD j0 iE.zero) j0) 0 l.ps.length 256; simp only [List.length_append, List.length_nil]; omega)) (fun o2 _ => ?_))
  refine nP (sg (mv rfl (co (fA 2 (.t rfl)) ?_)))
  refine co (Ev.ldv ty24 (.t rfl) SConf.l_rules) ?_
  refine co (Ev.ldv ty84 (.t rfl) (Lens.id _)) ?_
  refine co (Ev.makeBound (f := 42) (.cons (.t rfl) .nil) .nil) ?_
  refine cons (callr (X := OV) (r := FR b3 o2 (([] ++ listG (fun j0 : Nat => portE l.ps (l.ps.getD j0 iE.zero) j0) 0 l.ps.length 256) ++ listG (fun j0 : Nat => routeE l (l.rs.getD j0 eRoute.zero) j0) (0 + (l.ps.length : Int)) l.rs.length 1024) ((0 + (l.ps.length : Int)) + (l.rs.length : Int))) (r' := fun o2 => FR b3 o2 (((([] ++ listG (fun j0 : Nat => portE l.ps (l.ps.getD j0 iE.zero) j0) 0 l.ps.length 256) ++ listG (fun j0 : Nat => routeE l (l.rs.getD j0 eRoute.zero) j0) (0 + (l.ps.length : Int)) l.rs.length 1024) ++ listG (fun j0 : Nat => ruleE l (l.us.getD j0 eRule.zero) j0) ((0 + (l.ps.length : Int)) + (l.rs.length : Int)) l.us.length 256)) (((0 + (l.ps.length : Int)) + (l.rs.length : Int)) + (l.us.length : Int))) (fun _ => True) (fun _ => .tuple #[]) (fun _ => Upd.head) List.mem_cons_self en41 (.cons (.t rfl) (.cons (.t rfl) (.cons (.c (v := I 256) rfl) (.cons (.t rfl) .nil)))) (fun w I => list_76 42 [eConfKnown.val kb.k] [] (ruleE l) (fun x _ => x ∈ l.us) b3 o2 (([] ++ listG (fun j0 : Nat => portE l.ps (l.ps.getD j0 iE.zero) j0) 0 l.ps.length 256) ++ listG (fun j0 : Nat => routeE l (l.rs.getD j0 eRoute.zero) j0) (0 + (l.ps.length : Int)) l.rs.length 1024) ((0 + (l.ps.length : Int)) + (l.rs.length : Int)) _ l.us 256 w en42 (at_mem List.mem_cons_self w I) (fun w1 k1 => hc.us.keep0 (I.but Rem.head k1).keeps) (fun x i w1 h1 k1 => rule_ok kb l x i w1 (knownAt_own (fun r hr => by repeat first | exact List.mem_append_left _ hr | apply List.Mem.tail) w1 (I.but Rem.head k1)) (hn.us x h1)) (fun i hi => getD_in _ _ _ hi) (by constructor <;> omega) (by have := listG_len (fun j0 : Nat => portE l.ps (l.ps.getD j0 iE.zero) j0) 0 l.ps.length 256; have := listG_len (fun j0 : Nat => routeE l (l.rs.getD j0 eRoute.zero) j0) (0 + (l.ps.length : Int)) l.rs.length 1024; simp only [List.length_append, List.length_nil]; omega)) (fun o3 _ => ?_))
  refine nP (sg (mv rfl (co (fA 3 (.t rfl)) ?_)))
  refine co (Ev.ldv ty25 (.t rfl) SConf.l_meters) ?_
  refine co (Ev.ldv ty84 (.t rfl) (Lens.id _)) ?_
  refine co (Ev.makeBound (f := 44) (.cons (.t rfl) .nil) .nil) ?_
  refine cons (callr (X := OV) (r := FR b3 o3 ((([] ++ listG (fun j0 : Nat => portE l.ps (l.ps.getD j0 iE.zero) j0) 0 l.ps.length 256) ++ listG (fun j0 : Nat => routeE l (l.rs.getD j0 eRoute.zero) j0) (0 + (l.ps.length : Int)) l.rs.length 1024) ++ listG (fun j0 : Nat => ruleE l (l.us.getD j0 eRule.zero) j0) ((0 + (l.ps.length : Int)) + (l.rs.length : Int)) l.us.length 256) (((0 + (l.ps.length : Int)) + (l.rs.length : Int)) + (l.us.length : Int))) (r' := fun o2 => FR b3 o2 ((((([] ++ listG (fun j0 : Nat => portE l.ps (l.ps.getD j0 iE.zero) j0) 0 l.ps.length 256) ++ listG (fun j0 : Nat => routeE l (l.rs.getD j0 eRoute.zero) j0) (0 + (l.ps.length : Int)) l.rs.length 1024) ++ listG (fun j0 : Nat => ruleE l (l.us.getD j0 eRule.zero) j0) ((0 + (l.ps.length : Int)) + (l.rs.length : Int)) l.us.length 256) ++ listG (fun j0 : Nat => meterE l (l.ms.getD j0 eMeterConf.zero) j0) (((0 + (l.ps.length : Int)) + (l.rs.length : Int)) + (l.us.length : Int)) l.ms.length 64)) ((((0 + (l.ps.length : Int)) + (l.rs.length : Int)) + (l.us.length : Int)) + (l.ms.length : Int))) (fun _ => True) (fun _ => .tuple #[]) (fun _ => Upd.head) List.mem_cons_self en43 (.cons (.t rfl) (.cons (.t rfl) (.cons (.c (v := I 64) rfl) (.cons (.t rfl) .nil)))) (fun w I => list_57 44 [eConfKnown.val kb.k] [] (meterE l) (fun x _ => x ∈ l.ms) b3 o3 ((([] ++ listG (fun j0 : Nat => portE l.ps (l.ps.getD j0 iE.zero) j0) 0 l.ps.length 256) ++ listG (fun j0 : Nat => routeE l (l.rs.getD j0 eRoute.zero) j0) (0 + (l.ps.length : Int)) l.rs.length 1024) ++ listG (fun j0 : Nat => ruleE l (l.us.getD j0 eRule.zero) j0) ((0 + (l.ps.length : Int)) + (l.rs.length : Int)) l.us.length 256) (((0 + (l.ps.length : Int)) + (l.rs.length : Int)) + (l.us.length : Int)) _ l.ms 64 w en44 (at_mem List.mem_cons_self w I) (fun w1 k1 => hc.ms.keep0 (I.but Rem.head k1).keeps) (fun x i w1 h1 k1 => meter_ok kb l x i w1 (knownAt_own (fun r hr => by repeat first | exact List.mem_append_left _ hr | apply List.Mem.tail) w1 (I.but Rem.head k1)) (hn.ms x h1)) (fun i hi => getD_in _ _ _ hi) (by constructor <;> omega) (by have := listG_len (fun j0 : Nat => portE l.ps (l.ps.getD j0 iE.zero) j0) 0 l.ps.length 256; have := listG_len (fun j0 : Nat => routeE l (l.rs.getD j0 eRoute.zero) j0) (0 + (l.ps.length : Int)) l.rs.length 1024; have := listG_len (fun j0 : Nat => ruleE l (l.us.getD j0 eRule.zero) j0) ((0 + (l.ps.length : Int)) + (l.rs.length : Int)) l.us.length 256; simp only [List.length_append, List.length_nil]; omega)) (fun o4 _ => ?_))
  refine nP (sg (mv rfl (co (fA 4 (.t rfl)) ?_)))
  refine co (Ev.ldv ty26 (.t rfl) SConf.l_mirrors) ?_
  refine co (Ev.ldv ty84 (.t rfl) (Lens.id _)) ?_
  refine co (Ev.makeBound (f := 46) (.cons (.t rfl) .nil) .nil) ?_
  refine cons (callr (X := OV) (r := FR b3 o4 (((([] ++ listG (fun j0 : Nat => portE l.ps (l.ps.getD j0 iE.zero) j0) 0 l.ps.length 256) ++ listG (fun j0 : Nat => routeE l (l.rs.getD j0 eRoute.zero) j0) (0 + (l.ps.length : Int)) l.rs.length 1024) ++ listG (fun j0 : Nat => ruleE l (l.us.getD j0 eRule.zero) j0) ((0 + (l.ps.length : Int)) + (l.rs.length : Int)) l.us.length 256) ++ listG (fun j0 : Nat => meterE l (l.ms.getD j0 eMeterConf.zero) j0) (((0 + (l.ps.length : Int)) + (l.rs.length : Int)) + (l.us.length : Int)) l.ms.length 64) ((((0 + (l.ps.length : Int)) + (l.rs.length : Int)) + (l.us.length : Int)) + (l.ms.length : Int))) (r' := fun o2 => FR b3 o2 (((((([] ++ listG (fun j0 : Nat => portE l.ps (l.ps.getD j0 iE.zero) j0) 0 l.ps.length 256) ++ listG (fun j0 : Nat => routeE l (l.rs.getD j0 eRoute.zero) j0) (0 + (l.ps.length : Int)) l.rs.length 1024) ++ listG (fun j0 : Nat => ruleE l (l.us.getD j0 eRule.zero) j0) ((0 + (l.ps.length : Int)) + (l.rs.length : Int)) l.us.length 256) ++ listG (fun j0 : Nat => meterE l (l.ms.getD j0 eMeterConf.zero) j0) (((0 + (l.ps.length : Int)) + (l.rs.length : Int)) + (l.us.length : Int)) l.ms.length 64) ++ listG (fun j0 : Nat => mirrorE l (l.xs.getD j0 eMirrorConf.zero) j0) ((((0 + (l.ps.length : Int)) + (l.rs.length : Int)) + (l.us.length : Int)) + (l.ms.length : Int)) l.xs.length 16)) (((((0 + (l.ps.length : Int)) + (l.rs.length : Int)) + (l.us.length : Int)) + (l.ms.length : Int)) + (l.xs.length : Int))) (fun _ => True) (fun _ => .tuple #[]) (fun _ => Upd.head) List.mem_cons_self en45 (.cons (.t rfl) (.cons (.t rfl) (.cons (.c (v := I 16) rfl) (.cons (.t rfl) .nil)))) (fun w I => list_59 46 [eConfKnown.val kb.k] [] (mirrorE l) (fun x _ => x ∈ l.xs) b3 o4 (((([] ++ listG (fun j0 : Nat => portE l.ps (l.ps.getD j0 iE.zero) j0) 0 l.ps.length 256) ++ listG (fun j0 : Nat => routeE l (l.rs.getD j0 eRoute.zero) j0) (0 + (l.ps.length : Int)) l.rs.length 1024) ++ listG (fun j0 : Nat => ruleE l (l.us.getD j0 eRule.zero) j0) ((0 + (l.ps.length : Int)) + (l.rs.length : Int)) l.us.length 256) ++ listG (fun j0 : Nat => meterE l (l.ms.getD j0 eMeterConf.zero) j0) (((0 + (l.ps.length : Int)) + (l.rs.length : Int)) + (l.us.length : Int)) l.ms.length 64) ((((0 + (l.ps.length : Int)) + (l.rs.length : Int)) + (l.us.length : Int)) + (l.ms.length : Int)) _ l.xs 16 w en46 (at_mem List.mem_cons_self w I) (fun w1 k1 => hc.xs.keep0 (I.but Rem.head k1).keeps) (fun x i w1 h1 k1 => mirror_ok kb l x i w1 (knownAt_own (fun r hr => by repeat first | exact List.mem_append_left _ hr | apply List.Mem.tail) w1 (I.but Rem.head k1)) (hn.xs x h1)) (fun i hi => getD_in _ _ _ hi) (by constructor <;> omega) (by have := listG_len (fun j0 : Nat => portE l.ps (l.ps.getD j0 iE.zero) j0) 0 l.ps.length 256; have := listG_len (fun j0 : Nat => routeE l (l.rs.getD j0 eRoute.zero) j0) (0 + (l.ps.length : Int)) l.rs.length 1024; have := listG_len (fun j0 : Nat => ruleE l (l.us.getD j0 eRule.zero) j0) ((0 + (l.ps.length : Int)) + (l.rs.length : Int)) l.us.length 256; have := listG_len (fun j0 : Nat => meterE l (l.ms.getD j0 eMeterConf.zero) j0) (((0 + (l.ps.length : Int)) + (l.rs.length : Int)) + (l.us.length : Int)) l.ms.length 64; simp only [List.length_append, List.length_nil]; omega)) (fun o5 _ => ?_))
  refine nP (cut (X := OV) (fun x : OV => True) (fun x : OV => [(4, true, .pointer (some ⟨b3, 0, none⟩))]) (fun x : OV => [Var b3 eConfFaults ⟨x, (((((0 + (l.ps.length : Int)) + (l.rs.length : Int)) + (l.us.length : Int)) + (l.ms.length : Int)) + (l.xs.length : Int))⟩ 88, OwnS x.v eFault (checkF l c.default) 37]) ?_ (fun x hx => ?_))
  · refine sg (sepOut Rem.head ?_)
    refine co (fA 5 (.t rfl)) ?_
    refine co (Ev.ldv ty3 (.t rfl) SConf.l_default) ?_
    refine co (Ev.neq_i (.t rfl) (.c (v := I 1) rfl)) ?_
    refine mv rfl (cg rfl rfl (fA 5 (.t rfl)) ?_)
    refine cg rfl rfl (Ev.ldv ty3 (.g rfl id) SConf.l_default) ?_
    refine cg rfl rfl (Ev.neq_i (.g rfl id) (.c (v := I 2) rfl)) ?_
    refine co (Ev.pkA (.t rfl) rfl) ?_
    refine mv rfl (cg rfl rfl (fA 5 (.t rfl)) ?_)
    refine cg rfl rfl (Ev.ldv ty3 (.g rfl id) SConf.l_default) ?_
    refine cg rfl rfl (Ev.neq_i (.g rfl id) (.c (v := I 4) rfl)) ?_
    refine co (Ev.pkA (.t rfl) rfl) ?_
    refine nP ?_
    first | refine condD rfl (fun h0 => ?_) (fun h0 => ?_) | refine cond rfl (fun h0 => ?_) (fun h0 => ?_)
    · have hdb : defBad c.default = true := (defBad_eq _).trans h0
      refine draw [] (by kernel_rfl) ?_
      refine tk 0 rfl (Ev.move (.t rfl)) ?_
      refine tk 1 rfl (Ev.move (.t rfl)) ?_
      refine tk 2 rfl (Ev.nilCheck (.t rfl)) ?_
      refine tk 3 rfl (fA 0 (.t rfl)) ?_
      refine tk 5 rfl (Ev.move (.t rfl)) ?_
      refine tk 6 rfl (Ev.nilCheck (.t rfl)) ?_
      refine tk 7 rfl (fA 1 (.t rfl)) ?_
      refine all [4, 8] (by kernel_rfl) (by decide) (.cons rfl ?_ (.cons rfl ?_ .nil))
      · refine (opv (Ev.ldv ty31 (.t rfl) SConfFaults.l_l) ?_)
        refine hdn (al1 8 rfl ((opv (Ev.ldv ty3 (.t rfl) SConfFaults.l_at_) ?_)))
        refine hdn (tk 9 rfl (Ev.buildS (fs := _) (places := [(0, 1), (1, 1)]) z37 rfl Tryz.underlying37 (by kernel_rfl) (.cons (.c (v := I 2) rfl) (.cons (.t rfl) .nil)) (Fills.cons SFault.l_code rfl (Fills.cons SFault.l_at_ rfl Fills.nil))) ?_)
        refine al1 10 rfl ((buildSlice (E := eFault) Tryz.underlying31 ty37 z37 (.cons (.t rfl) .nil) rfl rfl (fun v4 => ?_)))
        refine hdn (al1 11 rfl ((app (E := eFault) Tryz.underlying31 ty37 zb37 zs37 (.t rfl) (.t rfl) (fun v5 => ?_) (hby := ⟨by (show _ ≤ 9223372036854775807); have := thingsF_len l; simp only [List.length_cons, List.length_nil]; unfold thingsF at this; omega, by have := thingsF_len l; simp only [List.length_cons, List.length_nil]; unfold thingsF at this; omega⟩))))
        refine hdn (tk 12 rfl (Ev.nilCheck (.t rfl)) ?_)
        refine tk 13 rfl (fA 0 (.t rfl)) ?_
        refine al1 14 rfl ((stv ty31 SConfFaults.l_l (.t rfl) (.t rfl) ?_))
        refine hdn (ovr (pN (mt (X := OV) (_) trivial (hL := (by unfold checkF; (first | rw [if_pos hdb] | rw [if_neg hdb, List.append_nil]); repeat first | exact sR | exact sN | apply sC | apply sS | apply sA)))))
      · refine (opv (Ev.ldv ty3 (.t rfl) SConfFaults.l_at_) ?_)
        refine hdn (tk 9 rfl (Ev.buildS (fs := _) (places := [(0, 1), (1, 1)]) z37 rfl Tryz.underlying37 (by kernel_rfl) (.cons (.c (v := I 2) rfl) (.cons (.t rfl) .nil)) (Fills.cons SFault.l_code rfl (Fills.cons SFault.l_at_ rfl Fills.nil))) ?_)
        refine all [4, 10] (by kernel_rfl) (by decide) (.cons rfl ?_ (.cons rfl ?_ .nil))
        · refine (opv (Ev.ldv ty31 (.t rfl) SConfFaults.l_l) ?_)
          refine hdn (al1 10 rfl ((buildSlice (E := eFault) Tryz.underlying31 ty37 z37 (.cons (.t rfl) .nil) rfl rfl (fun v6 => ?_))))
          refine hdn (al1 11 rfl ((app (E := eFault) Tryz.underlying31 ty37 zb37 zs37 (.t rfl) (.t rfl) (fun v7 => ?_) (hby := ⟨by (show _ ≤ 9223372036854775807); have := thingsF_len l; simp only [List.length_cons, List.length_nil]; unfold thingsF at this; omega, by have := thingsF_len l; simp only [List.length_cons, List.length_nil]; unfold thingsF at this; omega⟩))))
          refine hdn (tk 12 rfl (Ev.nilCheck (.t rfl)) ?_)
          refine tk 13 rfl (fA 0 (.t rfl)) ?_
          refine al1 14 rfl ((stv ty31 SConfFaults.l_l (.t rfl) (.t rfl) ?_))
          refine hdn (ovr (pN (mt (X := OV) (_) trivial (hL := (by unfold checkF; (first | rw [if_pos hdb] | rw [if_neg hdb, List.append_nil]); repeat first | exact sR | exact sN | apply sC | apply sS | apply sA)))))
        · refine (buildSlice (E := eFault) Tryz.underlying31 ty37 z37 (.cons (.t rfl) .nil) rfl rfl (fun v8 => ?_))
          refine hdn (al1 4 rfl ((opv (Ev.ldv ty31 (.t rfl) SConfFaults.l_l) ?_)))
          refine hdn (al1 11 rfl ((app (E := eFault) Tryz.underlying31 ty37 zb37 zs37 (.t rfl) (.t rfl) (fun v9 => ?_) (hby := ⟨by (show _ ≤ 9223372036854775807); have := thingsF_len l; simp only [List.length_cons, List.length_nil]; unfold thingsF at this; omega, by have := thingsF_len l; simp only [List.length_cons, List.length_nil]; unfold thingsF at this; omega⟩))))
          refine hdn (tk 12 rfl (Ev.nilCheck (.t rfl)) ?_)
          refine tk 13 rfl (fA 0 (.t rfl)) ?_
          refine al1 14 rfl ((stv ty31 SConfFaults.l_l (.t rfl) (.t rfl) ?_))
          refine hdn (ovr (pN (mt (X := OV) (_) trivial (hL := (by unfold checkF; (first | rw [if_pos hdb] | rw [if_neg hdb, List.append_nil]); repeat first | exact sR | exact sN | apply sC | apply sS | apply sA)))))
    · have hdb : ¬ defBad c.default = true := by rw [show defBad c.default = false from (defBad_eq _).trans h0]; exact Bool.false_ne_true
      refine skip (pN (mt (X := OV) (_) trivial (hL := (by unfold checkF; (first | rw [if_pos hdb] | rw [if_neg hdb, List.append_nil]); repeat first | exact sR | exact sN | apply sC | apply sS | apply sA))))
  obtain ⟨q, rfl⟩ : ∃ y, y = x := ⟨x, rfl⟩
  show Sat _ _ [(4, true, .pointer (some ⟨b3, 0, none⟩))] [Var b3 eConfFaults ⟨q, (((((0 + (l.ps.length : Int)) + (l.rs.length : Int)) + (l.us.length : Int)) + (l.ms.length : Int)) + (l.xs.length : Int))⟩ 88, OwnS q.v eFault (checkF l c.default) 37]
  refine sg (mv rfl (co (Ev.nilCheck (.t rfl)) ?_))
  refine co (fA 0 (.t rfl)) ?_
  refine co (Ev.ldv ty31 (.t rfl) SConfFaults.l_l) ?_
  refine asn rfl (nP (ret (done rfl (.tmp rfl .nil) (retOE (by repeat first | exact mH | apply mT | apply mA) ?_))))
  rfl
def mayB (l : CL) (d : Int) : Bool := decide (checkF l d = [])
theorem en12 : Gx.Enters Tryz.prog 12 := Gx.Enters.mk' (by kernel_rfl)
theorem may_ok (c : SConf) (l : CL) (w : World) (hc : ConfAt w c l) (hn : l.Names) (hz : l.n ≤ 4611686018427387904) : Calls Tryz.prog 15 #[eConf.val c] w (RetV w (.bool (mayB l c.default))) := by
  refine en0 7 Tryz.func15 ?_
  refine sg (cons (box (E := eConf) (.t rfl) (fun b1 => ?_)))
  refine co (Ev.assign (.c (v := .bool false) rfl)) ?_
  refine nP (sg (co (Ev.ldx c ty28 (.t rfl) (Lens.id _)) ?_))
  refine cons (callo en12 (.cons (.t rfl) .nil) (fun w I => conf_check c l w (hc.keep0 I.keeps) hn hz) (fun v2 => ?_))
  refine co (Ev.len Tryz.underlying31 (.t rfl) (by first | exact isSl_own (by repeat first | exact mH | apply mT | apply mA) | exact fun w I => IsSl.keep0 (by assumption) I.keeps)) ?_
  refine co (Ev.eql_i (.t rfl) (.c (v := I 0) rfl)) ?_
  refine asn rfl (nP (ret (done rfl (.tmp rfl .nil) (retE ?_))))
  unfold mayB
  refine congrArg Value.bool ?_
  rw [Bool.eq_iff_iff, decide_eq_true_iff, decide_eq_true_iff, ← List.length_eq_zero_iff]
  omega
structure SChange where
  kind : Int
  port : Int
  route : SRoute
  meter : SMeterConf
  mirror : SMirrorConf
  rules : OV
  default : Int
def SChange.to : (Int × (Int × (SRoute × (SMeterConf × (SMirrorConf × (OV × Int)))))) → SChange := fun x => ⟨x.1, x.2.1, x.2.2.1, x.2.2.2.1, x.2.2.2.2.1, x.2.2.2.2.2.1, x.2.2.2.2.2.2⟩
def SChange.of : SChange → (Int × (Int × (SRoute × (SMeterConf × (SMirrorConf × (OV × Int)))))) := fun x => (x.kind, x.port, x.route, x.meter, x.mirror, x.rules, x.default)
def eChange : Enc SChange := isoE (prodE iE (prodE iE (prodE eRoute (prodE eMeterConf (prodE eMirrorConf (prodE (ovE nilSl) iE)))))) SChange.to SChange.of
def SChange.l_kind : Lens eChange iE 0 := lIso _ SChange.to SChange.of (fun _ => rfl) (lFst iE (prodE iE (prodE eRoute (prodE eMeterConf (prodE eMirrorConf (prodE (ovE nilSl) iE))))))
@[simp] theorem SChange.get_kind (x : SChange) : SChange.l_kind.get x = x.kind := rfl
@[simp] theorem SChange.set_kind (x : SChange) (y : Int) : SChange.l_kind.set x y = { x with kind := y } := rfl
def SChange.l_port : Lens eChange iE 1 := lIso _ SChange.to SChange.of (fun _ => rfl) (Lens.comp (lSnd iE (prodE iE (prodE eRoute (prodE eMeterConf (prodE eMirrorConf (prodE (ovE nilSl) iE)))))) (lFst iE (prodE eRoute (prodE eMeterConf (prodE eMirrorConf (prodE (ovE nilSl) iE))))))
@[simp] theorem SChange.get_port (x : SChange) : SChange.l_port.get x = x.port := rfl
@[simp] theorem SChange.set_port (x : SChange) (y : Int) : SChange.l_port.set x y = { x with port := y } := rfl
def SChange.l_route : Lens eChange eRoute 2 := lIso _ SChange.to SChange.of (fun _ => rfl) (Lens.comp (lSnd iE (prodE iE (prodE eRoute (prodE eMeterConf (prodE eMirrorConf (prodE (ovE nilSl) iE)))))) (Lens.comp (lSnd iE (prodE eRoute (prodE eMeterConf (prodE eMirrorConf (prodE (ovE nilSl) iE))))) (lFst eRoute (prodE eMeterConf (prodE eMirrorConf (prodE (ovE nilSl) iE))))))
@[simp] theorem SChange.get_route (x : SChange) : SChange.l_route.get x = x.route := rfl
@[simp] theorem SChange.set_route (x : SChange) (y : SRoute) : SChange.l_route.set x y = { x with route := y } := rfl
def SChange.l_meter : Lens eChange eMeterConf 21 := lIso _ SChange.to SChange.of (fun _ => rfl) (Lens.comp (lSnd iE (prodE iE (prodE eRoute (prodE eMeterConf (prodE eMirrorConf (prodE (ovE nilSl) iE)))))) (Lens.comp (lSnd iE (prodE eRoute (prodE eMeterConf (prodE eMirrorConf (prodE (ovE nilSl) iE))))) (Lens.comp (lSnd eRoute (prodE eMeterConf (prodE eMirrorConf (prodE (ovE nilSl) iE)))) (lFst eMeterConf (prodE eMirrorConf (prodE (ovE nilSl) iE))))))
@[simp] theorem SChange.get_meter (x : SChange) : SChange.l_meter.get x = x.meter := rfl
@[simp] theorem SChange.set_meter (x : SChange) (y : SMeterConf) : SChange.l_meter.set x y = { x with meter := y } := rfl
def SChange.l_mirror : Lens eChange eMirrorConf 25 := lIso _ SChange.to SChange.of (fun _ => rfl) (Lens.comp (lSnd iE (prodE iE (prodE eRoute (prodE eMeterConf (prodE eMirrorConf (prodE (ovE nilSl) iE)))))) (Lens.comp (lSnd iE (prodE eRoute (prodE eMeterConf (prodE eMirrorConf (prodE (ovE nilSl) iE))))) (Lens.comp (lSnd eRoute (prodE eMeterConf (prodE eMirrorConf (prodE (ovE nilSl) iE)))) (Lens.comp (lSnd eMeterConf (prodE eMirrorConf (prodE (ovE nilSl) iE))) (lFst eMirrorConf (prodE (ovE nilSl) iE))))))
@[simp] theorem SChange.get_mirror (x : SChange) : SChange.l_mirror.get x = x.mirror := rfl
@[simp] theorem SChange.set_mirror (x : SChange) (y : SMirrorConf) : SChange.l_mirror.set x y = { x with mirror := y } := rfl
def SChange.l_rules : Lens eChange (ovE nilSl) 28 := lIso _ SChange.to SChange.of (fun _ => rfl) (Lens.comp (lSnd iE (prodE iE (prodE eRoute (prodE eMeterConf (prodE eMirrorConf (prodE (ovE nilSl) iE)))))) (Lens.comp (lSnd iE (prodE eRoute (prodE eMeterConf (prodE eMirrorConf (prodE (ovE nilSl) iE))))) (Lens.comp (lSnd eRoute (prodE eMeterConf (prodE eMirrorConf (prodE (ovE nilSl) iE)))) (Lens.comp (lSnd eMeterConf (prodE eMirrorConf (prodE (ovE nilSl) iE))) (Lens.comp (lSnd eMirrorConf (prodE (ovE nilSl) iE)) (lFst (ovE nilSl) iE))))))
@[simp] theorem SChange.get_rules (x : SChange) : SChange.l_rules.get x = x.rules := rfl
@[simp] theorem SChange.set_rules (x : SChange) (y : OV) : SChange.l_rules.set x y = { x with rules := y } := rfl
def SChange.l_default : Lens eChange iE 29 := lIso _ SChange.to SChange.of (fun _ => rfl) (Lens.comp (lSnd iE (prodE iE (prodE eRoute (prodE eMeterConf (prodE eMirrorConf (prodE (ovE nilSl) iE)))))) (Lens.comp (lSnd iE (prodE eRoute (prodE eMeterConf (prodE eMirrorConf (prodE (ovE nilSl) iE))))) (Lens.comp (lSnd eRoute (prodE eMeterConf (prodE eMirrorConf (prodE (ovE nilSl) iE)))) (Lens.comp (lSnd eMeterConf (prodE eMirrorConf (prodE (ovE nilSl) iE))) (Lens.comp (lSnd eMirrorConf (prodE (ovE nilSl) iE)) (Lens.comp (lSnd (ovE nilSl) iE) (Lens.id iE)))))))
@[simp] theorem SChange.get_default (x : SChange) : SChange.l_default.get x = x.default := rfl
@[simp] theorem SChange.set_default (x : SChange) (y : Int) : SChange.l_default.set x y = { x with default := y } := rfl
def KnR (x : KB) (l : CL) : Res := Sep (MapR x.b5 sE iE (mirrorsM l)) (Sep (MapR x.b4 sE iE (metersM l)) (Sep (MapR x.b3 sE iE (rulesM l)) (Sep (MapR x.b2 ePrefix iE (routesM l)) (MapR x.b1 iE iE (portsM l)))))
theorem known_in {K : Ctx} {F : Fr} {L : List Res} {X : Act → World → Prop} {x : KB} {l : CL} (next : Sat K X F (KnR x l :: L)) : Sat K X F (x.R l ++ L) := fun a w G => by
  have h1 : WInv K (MapR x.b5 sE iE (mirrorsM l) :: MapR x.b4 sE iE (metersM l) :: MapR x.b3 sE iE (rulesM l) :: MapR x.b2 ePrefix iE (routesM l) :: MapR x.b1 iE iE (portsM l) :: L) w := G.inv
  have h2 := (h1.perm (L' := MapR x.b2 ePrefix iE (routesM l) :: MapR x.b1 iE iE (portsM l) :: MapR x.b3 sE iE (rulesM l) :: MapR x.b4 sE iE (metersM l) :: MapR x.b5 sE iE (mirrorsM l) :: L) (by
    have : (MapR x.b5 sE iE (mirrorsM l) :: MapR x.b4 sE iE (metersM l) :: MapR x.b3 sE iE (rulesM l) :: MapR x.b2 ePrefix iE (routesM l) :: MapR x.b1 iE iE (portsM l) :: L) = [MapR x.b5 sE iE (mirrorsM l), MapR x.b4 sE iE (metersM l), MapR x.b3 sE iE (rulesM l), MapR x.b2 ePrefix iE (routesM l), MapR x.b1 iE iE (portsM l)] ++ L := rfl
    rw [this]
    refine List.Perm.append_right L (l₁ := [MapR x.b2 ePrefix iE (routesM l), MapR x.b1 iE iE (portsM l), MapR x.b3 sE iE (rulesM l), MapR x.b4 sE iE (metersM l), MapR x.b5 sE iE (mirrorsM l)]) ?_
    generalize MapR x.b5 sE iE (mirrorsM l) = e
    generalize MapR x.b4 sE iE (metersM l) = d
    generalize MapR x.b3 sE iE (rulesM l) = c
    refine List.Perm.trans (List.perm_append_comm (l₁ := [_, _]) (l₂ := [c, d, e])) ?_
    refine List.Perm.trans ?_ (List.Perm.append_right _ (l₁ := [e, d, c]) (l₂ := [e, d, c]) (List.Perm.refl _))
    exact List.Perm.append_right [_, _] (l₁ := [c, d, e]) (l₂ := [e, d, c]) (List.reverse_perm [e, d, c]))).sepIn
  have h3 := (h2.perm (List.Perm.swap _ _ _)).sepIn
  have h4 := (h3.perm (List.Perm.swap _ _ _)).sepIn
  have h5 := (h4.perm (List.Perm.swap _ _ _)).sepIn
  exact next a w (G.world h5)
theorem known_of {K : Ctx} {L : List Res} {x : KB} {l : CL} (hm : KnR x l ∈ L) (w : World) (I : WInv K L w) : KnownAt w x l := by
  obtain ⟨a5, ⟨a4, ⟨a3, ⟨a2, a1, _⟩, _⟩, _⟩, _⟩ := (I.own _ hm).1
  exact ⟨a1, a2, a3, a4, a5⟩
abbrev OR (ob : Nat) (o : OV) (l : List SChange) : Res := Sep (Var ob (ovE nilSl) o 41) (OwnS o.v eChange l 61)
abbrev DR (pb ob : Nat) (o : OV) (l : List SChange) : Res := Sep (Var pb (ovE nilFn) (clo 63 [.pointer (some ⟨ob, 0, none⟩)]) 113) (OR ob o l)
def goneL {α κ : Type} (q : κ → κ → Bool) (f : α → κ) (m : List (κ × Int)) (mk : α → SChange) (l : List α) : List SChange := (l.filter (fun x => (findV q (f x) m).isNone)).map mk
theorem goneL_step {α κ : Type} (q : κ → κ → Bool) (f : α → κ) (m : List (κ × Int)) (mk : α → SChange) (l : List α) (z : α) {i : Int} (h : 0 ≤ i ∧ i < l.length) : goneL q f m mk (l.take (i + 1).toNat) = goneL q f m mk (l.take i.toNat) ++ (if (findV q (f (l.getD i.toNat z)) m).isNone then [mk (l.getD i.toNat z)] else []) := by
  rw [take_snoc l i h.1 h.2 z]
  unfold goneL
  rw [List.filter_append, List.map_append]
  congr 1
  rw [List.filter_cons, List.filter_nil]
  cases (findV q (f (l.getD i.toNat z)) m).isNone <;> simp
theorem goneL_len {α κ : Type} (q : κ → κ → Bool) (f : α → κ) (m : List (κ × Int)) (mk : α → SChange) (l : List α) : (goneL q f m mk l).length ≤ l.length := by
  unfold goneL
  rw [List.length_map]
  exact List.length_filter_le _ _
def chPort (k : Int) (x : Int) : SChange := { eChange.zero with kind := k, port := x }
def chRoute (k : Int) (x : SRoute) : SChange := { eChange.zero with kind := k, route := x }
def chMeter (k : Int) (x : SMeterConf) : SChange := { eChange.zero with kind := k, meter := x }
def chMirror (k : Int) (x : SMirrorConf) : SChange := { eChange.zero with kind := k, mirror := x }
def onlyR (x : SRoute) : SRoute := { eRoute.zero with to_ := x.to_ }
def onlyM (x : SMeterConf) : SMeterConf := { eMeterConf.zero with name := x.name }
def onlyX (x : SMirrorConf) : SMirrorConf := { eMirrorConf.zero with name := x.name }
def chRules (x : OV) : SChange := { eChange.zero with kind := 9, rules := x }
def chDefault (x : Int) : SChange := { eChange.zero with kind := 10, default := x }
theorem ty41 : TyOK Tryz.prog 41 (ovE nilSl) := TyOK.mk' (by kernel_rfl) (by kernel_rfl)
theorem ty61 : TyOK Tryz.prog 61 eChange := TyOK.mk' (by kernel_rfl) (by kernel_rfl)
theorem z61 : (Tryz.prog.info? 61).bind (·.zero) = some (eChange.val eChange.zero) := by kernel_rfl
theorem zb61 : (Tryz.prog.info? 61).map (fun i => (i.zero, i.bytes)) = some (some (eChange.val eChange.zero), 160) := by kernel_rfl
theorem zs61 : (eChange.val eChange.zero).cells.size = eChange.size := by rw [Enc.cells_val, List.size_toArray, Enc.len]
theorem put_ok (c : SChange) (ob : Nat) (o : OV) (l : List SChange) (w : World) (h : At (OR ob o l) w) (hl : l.length < 100000) : Calls Tryz.prog 63 #[eChange.val c, .pointer (some ⟨ob, 0, none⟩)] w (RetR w (OR ob o l) (fun _ : OV => True) (fun _ => .tuple #[]) (fun o2 => OR ob o2 (l ++ [c]))) := by
  refine enter (OR ob o l).foot 7 [OR ob o l] Tryz.func63 rfl rfl (Nat.le_of_ble_eq_true rfl) (start_at h) ?_
  refine sepOut Rem.head ?_
  refine sg (cons (box (E := eChange) (.t rfl) (fun b1 => ?_)))
  refine nP (region (co (Ev.ldv ty41 (.t rfl) (Lens.id _)) ?_))
  refine co (Ev.ldv ty61 (.t rfl) (Lens.id _)) ?_
  refine cons (buildSlice (E := eChange) Tryz.underlying41 ty61 z61 (.cons (.t rfl) .nil) rfl rfl (fun v2 => ?_))
  refine cons (app (E := eChange) Tryz.underlying41 ty61 zb61 zs61 (.t rfl) (.t rfl) (fun v3 => ?_) (hby := ⟨by (show _ ≤ 9223372036854775807); simp only [List.length_cons, List.length_nil]; omega, by simp only [List.length_cons, List.length_nil]; omega⟩))
  refine cons (stv ty41 (Lens.id _) (.t rfl) (.t rfl) ?_)
  refine nil (done' rfl .nil (fun w I => ?_))
  exact retR (r' := fun o2 => OR ob o2 (l ++ [c])) _ trivial rfl (List.mem_singleton_self _) w (WInv.sepIn (I.sub (by repeat first | exact sR | exact sN | apply sC | apply sS | apply sA)))
theorem en63 : Gx.Enters Tryz.prog 63 := Gx.Enters.mk' (by kernel_rfl)
theorem ty113 : TyOK Tryz.prog 113 (ovE nilFn) := TyOK.mk' (by kernel_rfl) (by kernel_rfl)
theorem tell2 (pb ob : Nat) (x : Int) (o : OV) (l : List SChange) (w : World) (h : At (DR pb ob o l) w) (hl : l.length < 100000) : Calls Tryz.prog 66 #[iE.val x, .pointer (some ⟨pb, 0, none⟩)] w (RetR w (DR pb ob o l) (fun _ : OV => True) (fun _ => .tuple #[]) (fun o2 => DR pb ob o2 (l ++ [chPort 1 x]))) := by
  refine enter (DR pb ob o l).foot 7 [DR pb ob o l] Tryz.func66 rfl rfl (Nat.le_of_ble_eq_true rfl) (start_at h) ?_
  refine sepOut Rem.head ?_
  refine region (co (Ev.ldv ty113 (.t rfl) (Lens.id _)) ?_)
  refine mv rfl (co (Ev.buildS (fs := _) (places := [(0, 1), (1, 1), (2, 19), (21, 4), (25, 3), (28, 1), (29, 1)]) z61 rfl Tryz.underlying61 (by kernel_rfl) (.cons (.c (v := I 1) rfl) (.cons (.t rfl) .nil)) (Fills.cons SChange.l_kind rfl (Fills.cons SChange.l_port rfl Fills.nil))) ?_)
  refine cons (callcr (X := OV) (r := OR ob o l) (r' := fun o2 => OR ob o2 (l ++ [chPort 1 x])) (fun _ => True) (fun _ => .tuple #[]) (fun _ => by repeat first | exact Upd.head | apply Upd.tail | apply Upd.right) (.t rfl) en63 (.cons (.t rfl) .nil) (fun w I => put_ok (chPort 1 x) ob o l w (am w I) hl) (fun o3 _ => ?_))
  refine nil (done' rfl .nil (fun w I => ?_))
  exact retR (r' := fun o2 => DR pb ob o2 (l ++ [chPort 1 x])) _ trivial rfl (List.mem_singleton_self _) w (WInv.sepIn (I.subP (by repeat first | exact SubP.nil | refine SubP.cons (by repeat first | exact Rem.head | apply Rem.tail) ?_)))
theorem tell2_at (pb ob : Nat) : TellL Tryz.prog 66 [.pointer (some ⟨pb, 0, none⟩)] 100000 iE (DR pb ob) (fun _ => True) (fun x => chPort 1 x) := fun x o l w _ hl h => tell2 pb ob x o l w h hl
theorem tell3 (pb ob : Nat) (x : SMeterConf) (o : OV) (l : List SChange) (w : World) (h : At (DR pb ob o l) w) (hl : l.length < 100000) : Calls Tryz.prog 70 #[eMeterConf.val x, .pointer (some ⟨pb, 0, none⟩)] w (RetR w (DR pb ob o l) (fun _ : OV => True) (fun _ => .tuple #[]) (fun o2 => DR pb ob o2 (l ++ [chMeter 5 x]))) := by
  refine enter (DR pb ob o l).foot 7 [DR pb ob o l] Tryz.func70 rfl rfl (Nat.le_of_ble_eq_true rfl) (start_at h) ?_
  refine sepOut Rem.head ?_
  refine sg (cons (box (E := eMeterConf) (.t rfl) (fun b1 => ?_)))
  refine nP (region (co (Ev.ldv ty113 (.t rfl) (Lens.id _)) ?_))
  refine co (Ev.ldx x ty57 (.t rfl) (Lens.id _)) ?_
  refine co (Ev.buildS (fs := _) (places := [(0, 1), (1, 1), (2, 19), (21, 4), (25, 3), (28, 1), (29, 1)]) z61 rfl Tryz.underlying61 (by kernel_rfl) (.cons (.c (v := I 5) rfl) (.cons (.t rfl) .nil)) (Fills.cons SChange.l_kind rfl (Fills.cons SChange.l_meter rfl Fills.nil))) ?_
  refine cons (callcr (X := OV) (r := OR ob o l) (r' := fun o2 => OR ob o2 (l ++ [chMeter 5 x])) (fun _ => True) (fun _ => .tuple #[]) (fun _ => by repeat first | exact Upd.head | apply Upd.tail | apply Upd.right) (.t rfl) en63 (.cons (.t rfl) .nil) (fun w I => put_ok (chMeter 5 x) ob o l w (am w I) hl) (fun o3 _ => ?_))
  refine nil (done' rfl .nil (fun w I => ?_))
  exact retR (r' := fun o2 => DR pb ob o2 (l ++ [chMeter 5 x])) _ trivial rfl (List.mem_singleton_self _) w (WInv.sepIn (I.subP (by repeat first | exact SubP.nil | refine SubP.cons (by repeat first | exact Rem.head | apply Rem.tail) ?_)))
theorem tell3_at (pb ob : Nat) : TellL Tryz.prog 70 [.pointer (some ⟨pb, 0, none⟩)] 100000 eMeterConf (DR pb ob) (fun _ => True) (fun x => chMeter 5 x) := fun x o l w _ hl h => tell3 pb ob x o l w h hl
theorem tell4 (pb ob : Nat) (x : SMirrorConf) (o : OV) (l : List SChange) (w : World) (h : At (DR pb ob o l) w) (hl : l.length < 100000) : Calls Tryz.prog 74 #[eMirrorConf.val x, .pointer (some ⟨pb, 0, none⟩)] w (RetR w (DR pb ob o l) (fun _ : OV => True) (fun _ => .tuple #[]) (fun o2 => DR pb ob o2 (l ++ [chMirror 7 x]))) := by
  refine enter (DR pb ob o l).foot 7 [DR pb ob o l] Tryz.func74 rfl rfl (Nat.le_of_ble_eq_true rfl) (start_at h) ?_
  refine sepOut Rem.head ?_
  refine sg (cons (box (E := eMirrorConf) (.t rfl) (fun b1 => ?_)))
  refine nP (region (co (Ev.ldv ty113 (.t rfl) (Lens.id _)) ?_))
  refine co (Ev.ldx x ty59 (.t rfl) (Lens.id _)) ?_
  refine co (Ev.buildS (fs := _) (places := [(0, 1), (1, 1), (2, 19), (21, 4), (25, 3), (28, 1), (29, 1)]) z61 rfl Tryz.underlying61 (by kernel_rfl) (.cons (.c (v := I 7) rfl) (.cons (.t rfl) .nil)) (Fills.cons SChange.l_kind rfl (Fills.cons SChange.l_mirror rfl Fills.nil))) ?_
  refine cons (callcr (X := OV) (r := OR ob o l) (r' := fun o2 => OR ob o2 (l ++ [chMirror 7 x])) (fun _ => True) (fun _ => .tuple #[]) (fun _ => by repeat first | exact Upd.head | apply Upd.tail | apply Upd.right) (.t rfl) en63 (.cons (.t rfl) .nil) (fun w I => put_ok (chMirror 7 x) ob o l w (am w I) hl) (fun o3 _ => ?_))
  refine nil (done' rfl .nil (fun w I => ?_))
  exact retR (r' := fun o2 => DR pb ob o2 (l ++ [chMirror 7 x])) _ trivial rfl (List.mem_singleton_self _) w (WInv.sepIn (I.subP (by repeat first | exact SubP.nil | refine SubP.cons (by repeat first | exact Rem.head | apply Rem.tail) ?_)))
theorem tell4_at (pb ob : Nat) : TellL Tryz.prog 74 [.pointer (some ⟨pb, 0, none⟩)] 100000 eMirrorConf (DR pb ob) (fun _ => True) (fun x => chMirror 7 x) := fun x o l w _ hl h => tell4 pb ob x o l w h hl
theorem tell5 (pb ob : Nat) (x : SRoute) (o : OV) (l : List SChange) (w : World) (h : At (DR pb ob o l) w) (hl : l.length < 100000) : Calls Tryz.prog 78 #[eRoute.val x, .pointer (some ⟨pb, 0, none⟩)] w (RetR w (DR pb ob o l) (fun _ : OV => True) (fun _ => .tuple #[]) (fun o2 => DR pb ob o2 (l ++ [chRoute 3 x]))) := by
  refine enter (DR pb ob o l).foot 7 [DR pb ob o l] Tryz.func78 rfl rfl (Nat.le_of_ble_eq_true rfl) (start_at h) ?_
  refine sepOut Rem.head ?_
  refine sg (cons (box (E := eRoute) (.t rfl) (fun b1 => ?_)))
  refine nP (region (co (Ev.ldv ty113 (.t rfl) (Lens.id _)) ?_))
  refine co (Ev.ldx x ty52 (.t rfl) (Lens.id _)) ?_
  refine co (Ev.buildS (fs := _) (places := [(0, 1), (1, 1), (2, 19), (21, 4), (25, 3), (28, 1), (29, 1)]) z61 rfl Tryz.underlying61 (by kernel_rfl) (.cons (.c (v := I 3) rfl) (.cons (.t rfl) .nil)) (Fills.cons SChange.l_kind rfl (Fills.cons SChange.l_route rfl Fills.nil))) ?_
  refine cons (callcr (X := OV) (r := OR ob o l) (r' := fun o2 => OR ob o2 (l ++ [chRoute 3 x])) (fun _ => True) (fun _ => .tuple #[]) (fun _ => by repeat first | exact Upd.head | apply Upd.tail | apply Upd.right) (.t rfl) en63 (.cons (.t rfl) .nil) (fun w I => put_ok (chRoute 3 x) ob o l w (am w I) hl) (fun o3 _ => ?_))
  refine nil (done' rfl .nil (fun w I => ?_))
  exact retR (r' := fun o2 => DR pb ob o2 (l ++ [chRoute 3 x])) _ trivial rfl (List.mem_singleton_self _) w (WInv.sepIn (I.subP (by repeat first | exact SubP.nil | refine SubP.cons (by repeat first | exact Rem.head | apply Rem.tail) ?_)))
theorem tell5_at (pb ob : Nat) : TellL Tryz.prog 78 [.pointer (some ⟨pb, 0, none⟩)] 100000 eRoute (DR pb ob) (fun _ => True) (fun x => chRoute 3 x) := fun x o l w _ hl h => tell5 pb ob x o l w h hl
theorem tell7 (pb ob : Nat) (x : SRoute) (o : OV) (l : List SChange) (w : World) (h : At (DR pb ob o l) w) (hl : l.length < 100000) : Calls Tryz.prog 81 #[eRoute.val x, .pointer (some ⟨pb, 0, none⟩)] w (RetR w (DR pb ob o l) (fun _ : OV => True) (fun _ => .tuple #[]) (fun o2 => DR pb ob o2 (l ++ [chRoute 4 (onlyR x)]))) := by
  refine enter (DR pb ob o l).foot 9 [DR pb ob o l] Tryz.func81 rfl rfl (Nat.le_of_ble_eq_true rfl) (start_at h) ?_
  refine sepOut Rem.head ?_
  refine sg (cons (box (E := eRoute) (.t rfl) (fun b1 => ?_)))
  refine nP (region (co (Ev.ldv ty113 (.t rfl) (Lens.id _)) ?_))
  refine co (fA 0 (.t rfl)) ?_
  refine co (Ev.ldx x.to_ ty50 (.t rfl) SRoute.l_to_) ?_
  refine co (Ev.buildS (fs := _) (places := [(0, 18), (18, 1)]) z52 rfl Tryz.underlying52 (by kernel_rfl) (.cons (.t rfl) .nil) (Fills.cons SRoute.l_to_ rfl Fills.nil)) ?_
  refine co (Ev.buildS (fs := _) (places := [(0, 1), (1, 1), (2, 19), (21, 4), (25, 3), (28, 1), (29, 1)]) z61 rfl Tryz.underlying61 (by kernel_rfl) (.cons (.c (v := I 4) rfl) (.cons (.t rfl) .nil)) (Fills.cons SChange.l_kind rfl (Fills.cons SChange.l_route rfl Fills.nil))) ?_
  refine cons (callcr (X := OV) (r := OR ob o l) (r' := fun o2 => OR ob o2 (l ++ [chRoute 4 (onlyR x)])) (fun _ => True) (fun _ => .tuple #[]) (fun _ => by repeat first | exact Upd.head | apply Upd.tail | apply Upd.right) (.t rfl) en63 (.cons (.t rfl) .nil) (fun w I => put_ok (chRoute 4 (onlyR x)) ob o l w (am w I) hl) (fun o3 _ => ?_))
  refine nil (done' rfl .nil (fun w I => ?_))
  exact retR (r' := fun o2 => DR pb ob o2 (l ++ [chRoute 4 (onlyR x)])) _ trivial rfl (List.mem_singleton_self _) w (WInv.sepIn (I.subP (by repeat first | exact SubP.nil | refine SubP.cons (by repeat first | exact Rem.head | apply Rem.tail) ?_)))
theorem tell7_at (pb ob : Nat) : TellL Tryz.prog 81 [.pointer (some ⟨pb, 0, none⟩)] 100000 eRoute (DR pb ob) (fun _ => True) (fun x => chRoute 4 (onlyR x)) := fun x o l w _ hl h => tell7 pb ob x o l w h hl
theorem tell9 (pb ob : Nat) (x : SMeterConf) (o : OV) (l : List SChange) (w : World) (h : At (DR pb ob o l) w) (hl : l.length < 100000) : Calls Tryz.prog 84 #[eMeterConf.val x, .pointer (some ⟨pb, 0, none⟩)] w (RetR w (DR pb ob o l) (fun _ : OV => True) (fun _ => .tuple #[]) (fun o2 => DR pb ob o2 (l ++ [chMeter 6 (onlyM x)]))) := by
  refine enter (DR pb ob o l).foot 9 [DR pb ob o l] Tryz.func84 rfl rfl (Nat.le_of_ble_eq_true rfl) (start_at h) ?_
  refine sepOut Rem.head ?_
  refine sg (cons (box (E := eMeterConf) (.t rfl) (fun b1 => ?_)))
  refine nP (region (co (Ev.ldv ty113 (.t rfl) (Lens.id _)) ?_))
  refine co (fA 0 (.t rfl)) ?_
  refine co (Ev.ldx x.name ty9 (.t rfl) SMeterConf.l_name) ?_
  refine co (Ev.buildS (fs := _) (places := [(0, 1), (1, 3)]) z57 rfl Tryz.underlying57 (by kernel_rfl) (.cons (.t rfl) .nil) (Fills.cons SMeterConf.l_name rfl Fills.nil)) ?_
  refine co (Ev.buildS (fs := _) (places := [(0, 1), (1, 1), (2, 19), (21, 4), (25, 3), (28, 1), (29, 1)]) z61 rfl Tryz.underlying61 (by kernel_rfl) (.cons (.c (v := I 6) rfl) (.cons (.t rfl) .nil)) (Fills.cons SChange.l_kind rfl (Fills.cons SChange.l_meter rfl Fills.nil))) ?_
  refine cons (callcr (X := OV) (r := OR ob o l) (r' := fun o2 => OR ob o2 (l ++ [chMeter 6 (onlyM x)])) (fun _ => True) (fun _ => .tuple #[]) (fun _ => by repeat first | exact Upd.head | apply Upd.tail | apply Upd.right) (.t rfl) en63 (.cons (.t rfl) .nil) (fun w I => put_ok (chMeter 6 (onlyM x)) ob o l w (am w I) hl) (fun o3 _ => ?_))
  refine nil (done' rfl .nil (fun w I => ?_))
  exact retR (r' := fun o2 => DR pb ob o2 (l ++ [chMeter 6 (onlyM x)])) _ trivial rfl (List.mem_singleton_self _) w (WInv.sepIn (I.subP (by repeat first | exact SubP.nil | refine SubP.cons (by repeat first | exact Rem.head | apply Rem.tail) ?_)))
theorem tell9_at (pb ob : Nat) : TellL Tryz.prog 84 [.pointer (some ⟨pb, 0, none⟩)] 100000 eMeterConf (DR pb ob) (fun _ => True) (fun x => chMeter 6 (onlyM x)) := fun x o l w _ hl h => tell9 pb ob x o l w h hl
theorem tell11 (pb ob : Nat) (x : SMirrorConf) (o : OV) (l : List SChange) (w : World) (h : At (DR pb ob o l) w) (hl : l.length < 100000) : Calls Tryz.prog 87 #[eMirrorConf.val x, .pointer (some ⟨pb, 0, none⟩)] w (RetR w (DR pb ob o l) (fun _ : OV => True) (fun _ => .tuple #[]) (fun o2 => DR pb ob o2 (l ++ [chMirror 8 (onlyX x)]))) := by
  refine enter (DR pb ob o l).foot 9 [DR pb ob o l] Tryz.func87 rfl rfl (Nat.le_of_ble_eq_true rfl) (start_at h) ?_
  refine sepOut Rem.head ?_
  refine sg (cons (box (E := eMirrorConf) (.t rfl) (fun b1 => ?_)))
  refine nP (region (co (Ev.ldv ty113 (.t rfl) (Lens.id _)) ?_))
  refine co (fA 0 (.t rfl)) ?_
  refine co (Ev.ldx x.name ty9 (.t rfl) SMirrorConf.l_name) ?_
  refine co (Ev.buildS (fs := _) (places := [(0, 1), (1, 1), (2, 1)]) z59 rfl Tryz.underlying59 (by kernel_rfl) (.cons (.t rfl) .nil) (Fills.cons SMirrorConf.l_name rfl Fills.nil)) ?_
  refine co (Ev.buildS (fs := _) (places := [(0, 1), (1, 1), (2, 19), (21, 4), (25, 3), (28, 1), (29, 1)]) z61 rfl Tryz.underlying61 (by kernel_rfl) (.cons (.c (v := I 8) rfl) (.cons (.t rfl) .nil)) (Fills.cons SChange.l_kind rfl (Fills.cons SChange.l_mirror rfl Fills.nil))) ?_
  refine cons (callcr (X := OV) (r := OR ob o l) (r' := fun o2 => OR ob o2 (l ++ [chMirror 8 (onlyX x)])) (fun _ => True) (fun _ => .tuple #[]) (fun _ => by repeat first | exact Upd.head | apply Upd.tail | apply Upd.right) (.t rfl) en63 (.cons (.t rfl) .nil) (fun w I => put_ok (chMirror 8 (onlyX x)) ob o l w (am w I) hl) (fun o3 _ => ?_))
  refine nil (done' rfl .nil (fun w I => ?_))
  exact retR (r' := fun o2 => DR pb ob o2 (l ++ [chMirror 8 (onlyX x)])) _ trivial rfl (List.mem_singleton_self _) w (WInv.sepIn (I.subP (by repeat first | exact SubP.nil | refine SubP.cons (by repeat first | exact Rem.head | apply Rem.tail) ?_)))
theorem tell11_at (pb ob : Nat) : TellL Tryz.prog 87 [.pointer (some ⟨pb, 0, none⟩)] 100000 eMirrorConf (DR pb ob) (fun _ => True) (fun x => chMirror 8 (onlyX x)) := fun x o l w _ hl h => tell11 pb ob x o l w h hl
theorem tell12 (pb ob : Nat) (x : Int) (o : OV) (l : List SChange) (w : World) (h : At (DR pb ob o l) w) (hl : l.length < 100000) : Calls Tryz.prog 88 #[iE.val x, .pointer (some ⟨pb, 0, none⟩)] w (RetR w (DR pb ob o l) (fun _ : OV => True) (fun _ => .tuple #[]) (fun o2 => DR pb ob o2 (l ++ [chPort 2 x]))) := by
  refine enter (DR pb ob o l).foot 7 [DR pb ob o l] Tryz.func88 rfl rfl (Nat.le_of_ble_eq_true rfl) (start_at h) ?_
  refine sepOut Rem.head ?_
  refine region (co (Ev.ldv ty113 (.t rfl) (Lens.id _)) ?_)
  refine mv rfl (co (Ev.buildS (fs := _) (places := [(0, 1), (1, 1), (2, 19), (21, 4), (25, 3), (28, 1), (29, 1)]) z61 rfl Tryz.underlying61 (by kernel_rfl) (.cons (.c (v := I 2) rfl) (.cons (.t rfl) .nil)) (Fills.cons SChange.l_kind rfl (Fills.cons SChange.l_port rfl Fills.nil))) ?_)
  refine cons (callcr (X := OV) (r := OR ob o l) (r' := fun o2 => OR ob o2 (l ++ [chPort 2 x])) (fun _ => True) (fun _ => .tuple #[]) (fun _ => by repeat first | exact Upd.head | apply Upd.tail | apply Upd.right) (.t rfl) en63 (.cons (.t rfl) .nil) (fun w I => put_ok (chPort 2 x) ob o l w (am w I) hl) (fun o3 _ => ?_))
  refine nil (done' rfl .nil (fun w I => ?_))
  exact retR (r' := fun o2 => DR pb ob o2 (l ++ [chPort 2 x])) _ trivial rfl (List.mem_singleton_self _) w (WInv.sepIn (I.subP (by repeat first | exact SubP.nil | refine SubP.cons (by repeat first | exact Rem.head | apply Rem.tail) ?_)))
theorem tell12_at (pb ob : Nat) : TellL Tryz.prog 88 [.pointer (some ⟨pb, 0, none⟩)] 100000 iE (DR pb ob) (fun _ => True) (fun x => chPort 2 x) := fun x o l w _ hl h => tell12 pb ob x o l w h hl
theorem its_i (a : Int) (w : World) : Calls Tryz.prog 65 #[iE.val a] w (RetV w (iE.val (a))) := by
  refine en0 4 Tryz.func65 ?_
  refine sg (co (Ev.assign (.c (v := I 0) rfl)) ?_)
  refine nP (sg (mv rfl (asn rfl (nP (ret (done rfl (.tmp rfl .nil) (retE ?_)))))))
  rfl
theorem its_i_at (M : Nat → Prop) (w : World) : FnAt Tryz.prog 65 [] M w iE iE (fun _ => True) (fun a => a) := fun a w _ _ => its_i a w
theorem its_m (a : SMeterConf) (w : World) : Calls Tryz.prog 69 #[eMeterConf.val a] w (RetV w (eMeterConf.val (a))) := by
  refine en0 4 Tryz.func69 ?_
  refine sg (cons (box (E := eMeterConf) (.t rfl) (fun b1 => ?_)))
  refine cons (alloc z57 (fun b2 => ?_))
  refine nP (sg (co (Ev.ldx a ty57 (.t rfl) (Lens.id _)) ?_))
  refine cons (stv ty57 (Lens.id _) (.t rfl) (.t rfl) ?_)
  refine nP (ret (done rfl (.cell rfl (fun w I => run_loadVar_pts ty57 (ptsVar (by repeat first | exact mH | apply mT | apply mA) (Lens.id _) w I)) .nil) (retE ?_)))
  rfl
theorem its_m_at (M : Nat → Prop) (w : World) : FnAt Tryz.prog 69 [] M w eMeterConf eMeterConf (fun _ => True) (fun a => a) := fun a w _ _ => its_m a w
theorem its_x (a : SMirrorConf) (w : World) : Calls Tryz.prog 73 #[eMirrorConf.val a] w (RetV w (eMirrorConf.val (a))) := by
  refine en0 4 Tryz.func73 ?_
  refine sg (cons (box (E := eMirrorConf) (.t rfl) (fun b1 => ?_)))
  refine cons (alloc z59 (fun b2 => ?_))
  refine nP (sg (co (Ev.ldx a ty59 (.t rfl) (Lens.id _)) ?_))
  refine cons (stv ty59 (Lens.id _) (.t rfl) (.t rfl) ?_)
  refine nP (ret (done rfl (.cell rfl (fun w I => run_loadVar_pts ty59 (ptsVar (by repeat first | exact mH | apply mT | apply mA) (Lens.id _) w I)) .nil) (retE ?_)))
  rfl
theorem its_x_at (M : Nat → Prop) (w : World) : FnAt Tryz.prog 73 [] M w eMirrorConf eMirrorConf (fun _ => True) (fun a => a) := fun a w _ _ => its_x a w
theorem its_r (a : SRoute) (w : World) : Calls Tryz.prog 77 #[eRoute.val a] w (RetV w (eRoute.val (a))) := by
  refine en0 4 Tryz.func77 ?_
  refine sg (cons (box (E := eRoute) (.t rfl) (fun b1 => ?_)))
  refine cons (alloc z52 (fun b2 => ?_))
  refine nP (sg (co (Ev.ldx a ty52 (.t rfl) (Lens.id _)) ?_))
  refine cons (stv ty52 (Lens.id _) (.t rfl) (.t rfl) ?_)
  refine nP (ret (done rfl (.cell rfl (fun w I => run_loadVar_pts ty52 (ptsVar (by repeat first | exact mH | apply mT | apply mA) (Lens.id _) w I)) .nil) (retE ?_)))
  rfl
theorem its_r_at (M : Nat → Prop) (w : World) : FnAt Tryz.prog 77 [] M w eRoute eRoute (fun _ => True) (fun a => a) := fun a w _ _ => its_r a w
theorem key6 (a : SRoute) (w : World) : Calls Tryz.prog 80 #[eRoute.val a] w (RetV w (ePrefix.val (a.to_))) := by
  refine en0 5 Tryz.func80 ?_
  refine sg (cons (box (E := eRoute) (.t rfl) (fun b1 => ?_)))
  refine cons (alloc z50 (fun b2 => ?_))
  refine nP (sg (co (fA 0 (.t rfl)) ?_))
  refine co (Ev.ldx a.to_ ty50 (.t rfl) SRoute.l_to_) ?_
  refine cons (stv ty50 (Lens.id _) (.t rfl) (.t rfl) ?_)
  refine nP (ret (done rfl (.cell rfl (fun w I => run_loadVar_pts ty50 (ptsVar (by repeat first | exact mH | apply mT | apply mA) (Lens.id _) w I)) .nil) (retE ?_)))
  rfl
theorem key6_at (M : Nat → Prop) (w : World) : FnAt Tryz.prog 80 [] M w eRoute ePrefix (fun _ => True) (fun a => a.to_) := fun a w _ _ => key6 a w
theorem key8 (a : SMeterConf) (w : World) : Calls Tryz.prog 83 #[eMeterConf.val a] w (RetV w (sE.val (a.name))) := by
  refine en0 5 Tryz.func83 ?_
  refine sg (cons (box (E := eMeterConf) (.t rfl) (fun b1 => ?_)))
  refine co (Ev.assign (.c (v := (Go.Value.string (ByteArray.mk #[]))) rfl)) ?_
  refine nP (sg (co (fA 0 (.t rfl)) ?_))
  refine co (Ev.ldx a.name ty9 (.t rfl) SMeterConf.l_name) ?_
  refine asn rfl (nP (ret (done rfl (.tmp rfl .nil) (retE ?_))))
  rfl
theorem key8_at (M : Nat → Prop) (w : World) : FnAt Tryz.prog 83 [] M w eMeterConf sE (fun _ => True) (fun a => a.name) := fun a w _ _ => key8 a w
theorem key10 (a : SMirrorConf) (w : World) : Calls Tryz.prog 86 #[eMirrorConf.val a] w (RetV w (sE.val (a.name))) := by
  refine en0 5 Tryz.func86 ?_
  refine sg (cons (box (E := eMirrorConf) (.t rfl) (fun b1 => ?_)))
  refine co (Ev.assign (.c (v := (Go.Value.string (ByteArray.mk #[]))) rfl)) ?_
  refine nP (sg (co (fA 0 (.t rfl)) ?_))
  refine co (Ev.ldx a.name ty9 (.t rfl) SMirrorConf.l_name) ?_
  refine asn rfl (nP (ret (done rfl (.tmp rfl .nil) (retE ?_))))
  rfl
theorem key10_at (M : Nat → Prop) (w : World) : FnAt Tryz.prog 86 [] M w eMirrorConf sE (fun _ => True) (fun a => a.name) := fun a w _ _ => key10 a w
theorem gone_3_3 (fk ft : Nat) (cap : List Value) (kf : Int → Int) (mk : Int → SChange) (b : Nat) (m : List (Int × Int)) (S0 : OV → List SChange → Res) (o : OV) (cs : List SChange) (u : Value) (xs : List Int) (w : World) (hek : Gx.Enters Tryz.prog fk) (het : Gx.Enters Tryz.prog ft) (h : At (S0 o cs) w) (hxs : ∀ w1, Keeps (S0 o cs).foot w w1 → IsSl iE w1 u xs) (hm : ∀ w1, Keeps (S0 o cs).foot w w1 → MapAt w1 b iE iE m) (hk : FnAt Tryz.prog fk [] (S0 o cs).foot w iE iE (fun _ => True) kf) (ht : TellL Tryz.prog ft cap 100000 iE S0 (fun _ => True) mk) (hn : cs.length + xs.length < 100000) : Calls Tryz.prog 64 #[u, .map (some b), (clo fk []).v, (clo ft cap).v] w (RetR w (S0 o cs) (fun _ : OV => True) (fun _ => .tuple #[]) (fun o2 => S0 o2 (cs ++ goneL eqd kf m mk xs))) := by
  have hle := (hxs w (Keeps.refl _ _)).le
  refine enter (S0 o cs).foot 32 [S0 o cs] Tryz.func64 rfl rfl (Nat.le_of_ble_eq_true rfl) (start_at h) ?_
  refine sg (mv rfl (co (Ev.len Tryz.underlying22 (.t rfl) (fun w I => hxs w I.keeps)) ?_))
  refine co (Ev.move (.c (v := I 0) rfl)) ?_
  refine nP (block (lp (X := Int × OV) (fun x : Int × OV => (0 ≤ x.1 ∧ x.1 ≤ xs.length)) (fun x : Int × OV => [(1, true, .map (some b)), (2, true, (clo fk []).v), (3, true, (clo ft cap).v), (12, true, u), (13, true, I xs.length), (14, true, I x.1)]) (fun x : Int × OV => [S0 x.2 (cs ++ goneL eqd kf m mk (xs.take x.1.toNat))]) (fun x : Int × OV => ((xs.length : Int) - x.1).toNat) (0, o) ?_ (fun x hx => ?_) (hL := (by simp only [show (0 : Int).toNat = 0 from rfl, List.take_zero, goneL, List.filter_nil, List.map_nil, List.append_nil]; repeat first | exact sR | exact sN | apply sC | apply sS | apply sA))))
  · omega
  obtain ⟨i, p⟩ := x
  have hi : 0 ≤ i ∧ i ≤ xs.length := hx
  clear hx
  show Sat _ _ [(1, true, .map (some b)), (2, true, (clo fk []).v), (3, true, (clo ft cap).v), (12, true, u), (13, true, I xs.length), (14, true, I i)] [S0 p (cs ++ goneL eqd kf m mk (xs.take i.toNat))]
  refine sg (co (Ev.lss_i (.t rfl) (.t rfl)) ?_)
  refine nP (seq ?_)
  first | refine condD rfl (fun h0 => ?_) (fun h0 => ?_) | refine cond rfl (fun h0 => ?_) (fun h0 => ?_)
  · try simp only [nb] at h0
    refine skip (pN (seq (block (sg (co (Ev.indexAddr Tryz.underlying22 ty3 (.t rfl) (.t rfl) (fun w I => hxs w I.keeps) (fun _ => by omega)) ?_)))))
    refine co (Ev.loadS0 ty3 (.t rfl) (fun w I => hxs w I.keeps) (fun _ => by omega)) ?_
    refine asn rfl (nP (sg ?_))
    have hst := goneL_step eqd kf m mk xs iE.zero (i := i) (by omega)
    refine mv rfl (mv rfl (mv rfl (cons (callcv (.t rfl) hek (.cons (.t rfl) .nil) (fun w I => hk (xs.getD i.toNat iE.zero) w trivial I.keeps) ?_))))
    refine co (Ev.lookupT Tryz.underlying80 Tryz.underlying3 key3 z3 (.t rfl) (.t rfl) (fun _ => (fun w I => hm w I.keeps))) ?_
    refine mv rfl (co (Ev.extract (.t rfl) rfl) (co (Ev.extract (.t rfl) rfl) (asn rfl (asn rfl (nP (sg (mv rfl (co (Ev.not (.t rfl)) ?_))))))))
    refine nP ?_
    first | refine condD rfl (fun h1 => ?_) (fun h1 => ?_) | refine cond rfl (fun h1 => ?_) (fun h1 => ?_)
    · try simp only [nb] at h1
      have hq : (findV eqd (kf (xs.getD i.toNat iE.zero)) m).isNone = true := by simpa using h1
      refine region (mv rfl (mv rfl (cons (callcr (X := OV) (r := S0 p (cs ++ goneL eqd kf m mk (xs.take i.toNat))) (r' := fun o2 => S0 o2 (cs ++ goneL eqd kf m mk (xs.take i.toNat) ++ [mk (xs.getD i.toNat iE.zero)])) (fun _ => True) (fun _ => .tuple #[]) (fun _ => by repeat first | exact Upd.head | apply Upd.tail | apply Upd.right) (.t rfl) het (.cons (.t rfl) .nil) (fun w I => ht (xs.getD i.toNat iE.zero) p _ w trivial (by have := goneL_len eqd kf m mk (xs.take i.toNat); simp only [List.length_append, List.length_take] at this ⊢; omega) (am w I)) (fun o3 _ => ?_)))))
      refine nil (bN (pN (region (co (Ev.add_i (.t rfl) (.c (v := I 1) rfl) (fun _ => by omega)) ?_))))
      refine mv rfl (nP (nx (X := Int × OV) (i + 1, _) ?_ ?_ (hL := (by rw [hst]; (first | rw [if_pos hq, ← List.append_assoc] | rw [if_neg hq, List.append_nil]); repeat first | exact sR | exact sN | apply sC | apply sS | apply sA))))
      · try dsimp only
        omega
      · try dsimp only
        omega
    · try simp only [nb] at h1
      have hq : ¬ (findV eqd (kf (xs.getD i.toNat iE.zero)) m).isNone = true := fun e => by
        rw [Option.isNone_iff_eq_none] at e
        rw [e] at h1
        simp at h1
      refine skip (bN (pN (region (co (Ev.add_i (.t rfl) (.c (v := I 1) rfl) (fun _ => by omega)) ?_))))
      refine mv rfl (nP (nx (X := Int × OV) (i + 1, _) ?_ ?_ (hL := (by rw [hst]; (first | rw [if_pos hq, ← List.append_assoc] | rw [if_neg hq, List.append_nil]); repeat first | exact sR | exact sN | apply sC | apply sS | apply sA))))
      · try dsimp only
        omega
      · try dsimp only
        omega
  · try simp only [nb] at h0
    refine exit (pX (pX (bX (done' rfl .nil (fun w I => ?_)))))
    have et : xs.take i.toNat = xs := List.take_of_length_le (by omega)
    rw [et] at I
    exact retR (r' := fun o2 => S0 o2 (cs ++ goneL eqd kf m mk xs)) _ trivial rfl (List.mem_singleton_self _) w (I.sub (by repeat first | exact sR | exact sN | apply sC | apply sS | apply sA))
theorem gone_57_57 (fk ft : Nat) (cap : List Value) (kf : SMeterConf → SMeterConf) (mk : SMeterConf → SChange) (b : Nat) (m : List (SMeterConf × Int)) (S0 : OV → List SChange → Res) (o : OV) (cs : List SChange) (u : Value) (xs : List SMeterConf) (w : World) (hek : Gx.Enters Tryz.prog fk) (het : Gx.Enters Tryz.prog ft) (h : At (S0 o cs) w) (hxs : ∀ w1, Keeps (S0 o cs).foot w w1 → IsSl eMeterConf w1 u xs) (hm : ∀ w1, Keeps (S0 o cs).foot w w1 → MapAt w1 b eMeterConf iE m) (hk : FnAt Tryz.prog fk [] (S0 o cs).foot w eMeterConf eMeterConf (fun _ => True) kf) (ht : TellL Tryz.prog ft cap 100000 eMeterConf S0 (fun _ => True) mk) (hn : cs.length + xs.length < 100000) : Calls Tryz.prog 67 #[u, .map (some b), (clo fk []).v, (clo ft cap).v] w (RetR w (S0 o cs) (fun _ : OV => True) (fun _ => .tuple #[]) (fun o2 => S0 o2 (cs ++ goneL SMeterConf.eqb kf m mk xs))) := by
  have hle := (hxs w (Keeps.refl _ _)).le
  refine enter (S0 o cs).foot 32 [S0 o cs] Tryz.func67 rfl rfl (Nat.le_of_ble_eq_true rfl) (start_at h) ?_
  refine sg (mv rfl (co (Ev.len Tryz.underlying25 (.t rfl) (fun w I => hxs w I.keeps)) ?_))
  refine co (Ev.move (.c (v := I 0) rfl)) ?_
  refine nP (block (lp (X := Int × OV) (fun x : Int × OV => (0 ≤ x.1 ∧ x.1 ≤ xs.length)) (fun x : Int × OV => [(1, true, .map (some b)), (2, true, (clo fk []).v), (3, true, (clo ft cap).v), (12, true, u), (13, true, I xs.length), (14, true, I x.1)]) (fun x : Int × OV => [S0 x.2 (cs ++ goneL SMeterConf.eqb kf m mk (xs.take x.1.toNat))]) (fun x : Int × OV => ((xs.length : Int) - x.1).toNat) (0, o) ?_ (fun x hx => ?_) (hL := (by simp only [show (0 : Int).toNat = 0 from rfl, List.take_zero, goneL, List.filter_nil, List.map_nil, List.append_nil]; repeat first | exact sR | exact sN | apply sC | apply sS | apply sA))))
  · omega
  obtain ⟨i, p⟩ := x
  have hi : 0 ≤ i ∧ i ≤ xs.length := hx
  clear hx
  show Sat _ _ [(1, true, .map (some b)), (2, true, (clo fk []).v), (3, true, (clo ft cap).v), (12, true, u), (13, true, I xs.length), (14, true, I i)] [S0 p (cs ++ goneL SMeterConf.eqb kf m mk (xs.take i.toNat))]
  refine sg (co (Ev.lss_i (.t rfl) (.t rfl)) ?_)
  refine nP (seq ?_)
  first | refine condD rfl (fun h0 => ?_) (fun h0 => ?_) | refine cond rfl (fun h0 => ?_) (fun h0 => ?_)
  · try simp only [nb] at h0
    refine skip (pN (seq (block (sg (co (Ev.indexAddr Tryz.underlying25 ty57 (.t rfl) (.t rfl) (fun w I => hxs w I.keeps) (fun _ => by omega)) ?_)))))
    refine co (Ev.loadS0 ty57 (.t rfl) (fun w I => hxs w I.keeps) (fun _ => by omega)) ?_
    refine cons (alloc z57 (fun b1 => ?_))
    refine cons (stv ty57 (Lens.id _) (.t rfl) (.t rfl) ?_)
    refine nP (sg ?_)
    have hst := goneL_step SMeterConf.eqb kf m mk xs eMeterConf.zero (i := i) (by omega)
    refine mv rfl (mv rfl (co (Ev.ldv ty57 (.t rfl) (Lens.id _)) ?_))
    refine cons (callcv (.t rfl) hek (.cons (.t rfl) .nil) (fun w I => hk (xs.getD i.toNat eMeterConf.zero) w trivial I.keeps) ?_)
    refine co (Ev.lookupT Tryz.underlying118 Tryz.underlying57 key57 z3 (.t rfl) (.t rfl) (fun _ => (fun w I => hm w I.keeps))) ?_
    refine mv rfl (co (Ev.extract (.t rfl) rfl) (co (Ev.extract (.t rfl) rfl) (asn rfl (asn rfl (nP (sg (mv rfl (co (Ev.not (.t rfl)) ?_))))))))
    refine nP ?_
    first | refine condD rfl (fun h1 => ?_) (fun h1 => ?_) | refine cond rfl (fun h1 => ?_) (fun h1 => ?_)
    · try simp only [nb] at h1
      have hq : (findV SMeterConf.eqb (kf (xs.getD i.toNat eMeterConf.zero)) m).isNone = true := by simpa using h1
      refine region (mv rfl (co (Ev.ldv ty57 (.t rfl) (Lens.id _)) ?_))
      refine cons (callcr (X := OV) (r := S0 p (cs ++ goneL SMeterConf.eqb kf m mk (xs.take i.toNat))) (r' := fun o2 => S0 o2 (cs ++ goneL SMeterConf.eqb kf m mk (xs.take i.toNat) ++ [mk (xs.getD i.toNat eMeterConf.zero)])) (fun _ => True) (fun _ => .tuple #[]) (fun _ => by repeat first | exact Upd.head | apply Upd.tail | apply Upd.right) (.t rfl) het (.cons (.t rfl) .nil) (fun w I => ht (xs.getD i.toNat eMeterConf.zero) p _ w trivial (by have := goneL_len SMeterConf.eqb kf m mk (xs.take i.toNat); simp only [List.length_append, List.length_take] at this ⊢; omega) (am w I)) (fun o3 _ => ?_))
      refine nil (bN (pN (region (co (Ev.add_i (.t rfl) (.c (v := I 1) rfl) (fun _ => by omega)) ?_))))
      refine mv rfl (nP (nx (X := Int × OV) (i + 1, _) ?_ ?_ (hL := (by rw [hst]; (first | rw [if_pos hq, ← List.append_assoc] | rw [if_neg hq, List.append_nil]); repeat first | exact sR | exact sN | apply sC | apply sS | apply sA))))
      · try dsimp only
        omega
      · try dsimp only
        omega
    · try simp only [nb] at h1
      have hq : ¬ (findV SMeterConf.eqb (kf (xs.getD i.toNat eMeterConf.zero)) m).isNone = true := fun e => by
        rw [Option.isNone_iff_eq_none] at e
        rw [e] at h1
        simp at h1
      refine skip (bN (pN (region (co (Ev.add_i (.t rfl) (.c (v := I 1) rfl) (fun _ => by omega)) ?_))))
      refine mv rfl (nP (nx (X := Int × OV) (i + 1, _) ?_ ?_ (hL := (by rw [hst]; (first | rw [if_pos hq, ← List.append_assoc] | rw [if_neg hq, List.append_nil]); repeat first | exact sR | exact sN | apply sC | apply sS | apply sA))))
      · try dsimp only
        omega
      · try dsimp only
        omega
  · try simp only [nb] at h0
    refine exit (pX (pX (bX (done' rfl .nil (fun w I => ?_)))))
    have et : xs.take i.toNat = xs := List.take_of_length_le (by omega)
    rw [et] at I
    exact retR (r' := fun o2 => S0 o2 (cs ++ goneL SMeterConf.eqb kf m mk xs)) _ trivial rfl (List.mem_singleton_self _) w (I.sub (by repeat first | exact sR | exact sN | apply sC | apply sS | apply sA))
theorem gone_59_59 (fk ft : Nat) (cap : List Value) (kf : SMirrorConf → SMirrorConf) (mk : SMirrorConf → SChange) (b : Nat) (m : List (SMirrorConf × Int)) (S0 : OV → List SChange → Res) (o : OV) (cs : List SChange) (u : Value) (xs : List SMirrorConf) (w : World) (hek : Gx.Enters Tryz.prog fk) (het : Gx.Enters Tryz.prog ft) (h : At (S0 o cs) w) (hxs : ∀ w1, Keeps (S0 o cs).foot w w1 → IsSl eMirrorConf w1 u xs) (hm : ∀ w1, Keeps (S0 o cs).foot w w1 → MapAt w1 b eMirrorConf iE m) (hk : FnAt Tryz.prog fk [] (S0 o cs).foot w eMirrorConf eMirrorConf (fun _ => True) kf) (ht : TellL Tryz.prog ft cap 100000 eMirrorConf S0 (fun _ => True) mk) (hn : cs.length + xs.length < 100000) : Calls Tryz.prog 71 #[u, .map (some b), (clo fk []).v, (clo ft cap).v] w (RetR w (S0 o cs) (fun _ : OV => True) (fun _ => .tuple #[]) (fun o2 => S0 o2 (cs ++ goneL SMirrorConf.eqb kf m mk xs))) := by
  have hle := (hxs w (Keeps.refl _ _)).le
  refine enter (S0 o cs).foot 32 [S0 o cs] Tryz.func71 rfl rfl (Nat.le_of_ble_eq_true rfl) (start_at h) ?_
  refine sg (mv rfl (co (Ev.len Tryz.underlying26 (.t rfl) (fun w I => hxs w I.keeps)) ?_))
  refine co (Ev.move (.c (v := I 0) rfl)) ?_
  refine nP (block (lp (X := Int × OV) (fun x : Int × OV => (0 ≤ x.1 ∧ x.1 ≤ xs.length)) (fun x : Int × OV => [(1, true, .map (some b)), (2, true, (clo fk []).v), (3, true, (clo ft cap).v), (12, true, u), (13, true, I xs.length), (14, true, I x.1)]) (fun x : Int × OV => [S0 x.2 (cs ++ goneL SMirrorConf.eqb kf m mk (xs.take x.1.toNat))]) (fun x : Int × OV => ((xs.length : Int) - x.1).toNat) (0, o) ?_ (fun x hx => ?_) (hL := (by simp only [show (0 : Int).toNat = 0 from rfl, List.take_zero, goneL, List.filter_nil, List.map_nil, List.append_nil]; repeat first | exact sR | exact sN | apply sC | apply sS | apply sA))))
  · omega
  obtain ⟨i, p⟩ := x
  have hi : 0 ≤ i ∧ i ≤ xs.length := hx
  clear hx
  show Sat _ _ [(1, true, .map (some b)), (2, true, (clo fk []).v), (3, true, (clo ft cap).v), (12, true, u), (13, true, I xs.length), (14, true, I i)] [S0 p (cs ++ goneL SMirrorConf.eqb kf m mk (xs.take i.toNat))]
  refine sg (co (Ev.lss_i (.t rfl) (.t rfl)) ?_)
  refine nP (seq ?_)
  first | refine condD rfl (fun h0 => ?_) (fun h0 => ?_) | refine cond rfl (fun h0 => ?_) (fun h0 => ?_)
  · try simp only [nb] at h0
    refine skip (pN (seq (block (sg (co (Ev.indexAddr Tryz.underlying26 ty59 (.t rfl) (.t rfl) (fun w I => hxs w I.keeps) (fun _ => by omega)) ?_)))))
    refine co (Ev.loadS0 ty59 (.t rfl) (fun w I => hxs w I.keeps) (fun _ => by omega)) ?_
    refine cons (alloc z59 (fun b1 => ?_))
    refine cons (stv ty59 (Lens.id _) (.t rfl) (.t rfl) ?_)
    refine nP (sg ?_)
    have hst := goneL_step SMirrorConf.eqb kf m mk xs eMirrorConf.zero (i := i) (by omega)
    refine mv rfl (mv rfl (co (Ev.ldv ty59 (.t rfl) (Lens.id _)) ?_))
    refine cons (callcv (.t rfl) hek (.cons (.t rfl) .nil) (fun w I => hk (xs.getD i.toNat eMirrorConf.zero) w trivial I.keeps) ?_)
    refine co (Ev.lookupT Tryz.underlying123 Tryz.underlying59 key59 z3 (.t rfl) (.t rfl) (fun _ => (fun w I => hm w I.keeps))) ?_
    refine mv rfl (co (Ev.extract (.t rfl) rfl) (co (Ev.extract (.t rfl) rfl) (asn rfl (asn rfl (nP (sg (mv rfl (co (Ev.not (.t rfl)) ?_))))))))
    refine nP ?_
    first | refine condD rfl (fun h1 => ?_) (fun h1 => ?_) | refine cond rfl (fun h1 => ?_) (fun h1 => ?_)
    · try simp only [nb] at h1
      have hq : (findV SMirrorConf.eqb (kf (xs.getD i.toNat eMirrorConf.zero)) m).isNone = true := by simpa using h1
      refine region (mv rfl (co (Ev.ldv ty59 (.t rfl) (Lens.id _)) ?_))
      refine cons (callcr (X := OV) (r := S0 p (cs ++ goneL SMirrorConf.eqb kf m mk (xs.take i.toNat))) (r' := fun o2 => S0 o2 (cs ++ goneL SMirrorConf.eqb kf m mk (xs.take i.toNat) ++ [mk (xs.getD i.toNat eMirrorConf.zero)])) (fun _ => True) (fun _ => .tuple #[]) (fun _ => by repeat first | exact Upd.head | apply Upd.tail | apply Upd.right) (.t rfl) het (.cons (.t rfl) .nil) (fun w I => ht (xs.getD i.toNat eMirrorConf.zero) p _ w trivial (by have := goneL_len SMirrorConf.eqb kf m mk (xs.take i.toNat); simp only [List.length_append, List.length_take] at this ⊢; omega) (am w I)) (fun o3 _ => ?_))
      refine nil (bN (pN (region (co (Ev.add_i (.t rfl) (.c (v := I 1) rfl) (fun _ => by omega)) ?_))))
      refine mv rfl (nP (nx (X := Int × OV) (i + 1, _) ?_ ?_ (hL := (by rw [hst]; (first | rw [if_pos hq, ← List.append_assoc] | rw [if_neg hq, List.append_nil]); repeat first | exact sR | exact sN | apply sC | apply sS | apply sA))))
      · try dsimp only
        omega
      · try dsimp only
        omega
    · try simp only [nb] at h1
      have hq : ¬ (findV SMirrorConf.eqb (kf (xs.getD i.toNat eMirrorConf.zero)) m).isNone = true := fun e => by
        rw [Option.isNone_iff_eq_none] at e
        rw [e] at h1
        simp at h1
      refine skip (bN (pN (region (co (Ev.add_i (.t rfl) (.c (v := I 1) rfl) (fun _ => by omega)) ?_))))
      refine mv rfl (nP (nx (X := Int × OV) (i + 1, _) ?_ ?_ (hL := (by rw [hst]; (first | rw [if_pos hq, ← List.append_assoc] | rw [if_neg hq, List.append_nil]); repeat first | exact sR | exact sN | apply sC | apply sS | apply sA))))
      · try dsimp only
        omega
      · try dsimp only
        omega
  · try simp only [nb] at h0
    refine exit (pX (pX (bX (done' rfl .nil (fun w I => ?_)))))
    have et : xs.take i.toNat = xs := List.take_of_length_le (by omega)
    rw [et] at I
    exact retR (r' := fun o2 => S0 o2 (cs ++ goneL SMirrorConf.eqb kf m mk xs)) _ trivial rfl (List.mem_singleton_self _) w (I.sub (by repeat first | exact sR | exact sN | apply sC | apply sS | apply sA))
theorem gone_52_52 (fk ft : Nat) (cap : List Value) (kf : SRoute → SRoute) (mk : SRoute → SChange) (b : Nat) (m : List (SRoute × Int)) (S0 : OV → List SChange → Res) (o : OV) (cs : List SChange) (u : Value) (xs : List SRoute) (w : World) (hek : Gx.Enters Tryz.prog fk) (het : Gx.Enters Tryz.prog ft) (h : At (S0 o cs) w) (hxs : ∀ w1, Keeps (S0 o cs).foot w w1 → IsSl eRoute w1 u xs) (hm : ∀ w1, Keeps (S0 o cs).foot w w1 → MapAt w1 b eRoute iE m) (hk : FnAt Tryz.prog fk [] (S0 o cs).foot w eRoute eRoute (fun _ => True) kf) (ht : TellL Tryz.prog ft cap 100000 eRoute S0 (fun _ => True) mk) (hn : cs.length + xs.length < 100000) : Calls Tryz.prog 75 #[u, .map (some b), (clo fk []).v, (clo ft cap).v] w (RetR w (S0 o cs) (fun _ : OV => True) (fun _ => .tuple #[]) (fun o2 => S0 o2 (cs ++ goneL SRoute.eqb kf m mk xs))) := by
  have hle := (hxs w (Keeps.refl _ _)).le
  refine enter (S0 o cs).foot 32 [S0 o cs] Tryz.func75 rfl rfl (Nat.le_of_ble_eq_true rfl) (start_at h) ?_
  refine sg (mv rfl (co (Ev.len Tryz.underlying23 (.t rfl) (fun w I => hxs w I.keeps)) ?_))
  refine co (Ev.move (.c (v := I 0) rfl)) ?_
  refine nP (block (lp (X := Int × OV) (fun x : Int × OV => (0 ≤ x.1 ∧ x.1 ≤ xs.length)) (fun x : Int × OV => [(1, true, .map (some b)), (2, true, (clo fk []).v), (3, true, (clo ft cap).v), (12, true, u), (13, true, I xs.length), (14, true, I x.1)]) (fun x : Int × OV => [S0 x.2 (cs ++ goneL SRoute.eqb kf m mk (xs.take x.1.toNat))]) (fun x : Int × OV => ((xs.length : Int) - x.1).toNat) (0, o) ?_ (fun x hx => ?_) (hL := (by simp only [show (0 : Int).toNat = 0 from rfl, List.take_zero, goneL, List.filter_nil, List.map_nil, List.append_nil]; repeat first | exact sR | exact sN | apply sC | apply sS | apply sA))))
  · omega
  obtain ⟨i, p⟩ := x
  have hi : 0 ≤ i ∧ i ≤ xs.length := hx
  clear hx
  show Sat _ _ [(1, true, .map (some b)), (2, true, (clo fk []).v), (3, true, (clo ft cap).v), (12, true, u), (13, true, I xs.length), (14, true, I i)] [S0 p (cs ++ goneL SRoute.eqb kf m mk (xs.take i.toNat))]
  refine sg (co (Ev.lss_i (.t rfl) (.t rfl)) ?_)
  refine nP (seq ?_)
  first | refine condD rfl (fun h0 => ?_) (fun h0 => ?_) | refine cond rfl (fun h0 => ?_) (fun h0 => ?_)
  · try simp only [nb] at h0
    refine skip (pN (seq (block (sg (co (Ev.indexAddr Tryz.underlying23 ty52 (.t rfl) (.t rfl) (fun w I => hxs w I.keeps) (fun _ => by omega)) ?_)))))
    refine co (Ev.loadS0 ty52 (.t rfl) (fun w I => hxs w I.keeps) (fun _ => by omega)) ?_
    refine cons (alloc z52 (fun b1 => ?_))
    refine cons (stv ty52 (Lens.id _) (.t rfl) (.t rfl) ?_)
    refine nP (sg ?_)
    have hst := goneL_step SRoute.eqb kf m mk xs eRoute.zero (i := i) (by omega)
    refine mv rfl (mv rfl (co (Ev.ldv ty52 (.t rfl) (Lens.id _)) ?_))
    refine cons (callcv (.t rfl) hek (.cons (.t rfl) .nil) (fun w I => hk (xs.getD i.toNat eRoute.zero) w trivial I.keeps) ?_)
    refine co (Ev.lookupT Tryz.underlying128 Tryz.underlying52 key52 z3 (.t rfl) (.t rfl) (fun _ => (fun w I => hm w I.keeps))) ?_
    refine mv rfl (co (Ev.extract (.t rfl) rfl) (co (Ev.extract (.t rfl) rfl) (asn rfl (asn rfl (nP (sg (mv rfl (co (Ev.not (.t rfl)) ?_))))))))
    refine nP ?_
    first | refine condD rfl (fun h1 => ?_) (fun h1 => ?_) | refine cond rfl (fun h1 => ?_) (fun h1 => ?_)
    · try simp only [nb] at h1
      have hq : (findV SRoute.eqb (kf (xs.getD i.toNat eRoute.zero)) m).isNone = true := by simpa using h1
      refine region (mv rfl (co (Ev.ldv ty52 (.t rfl) (Lens.id _)) ?_))
      refine cons (callcr (X := OV) (r := S0 p (cs ++ goneL SRoute.eqb kf m mk (xs.take i.toNat))) (r' := fun o2 => S0 o2 (cs ++ goneL SRoute.eqb kf m mk (xs.take i.toNat) ++ [mk (xs.getD i.toNat eRoute.zero)])) (fun _ => True) (fun _ => .tuple #[]) (fun _ => by repeat first | exact Upd.head | apply Upd.tail | apply Upd.right) (.t rfl) het (.cons (.t rfl) .nil) (fun w I => ht (xs.getD i.toNat eRoute.zero) p _ w trivial (by have := goneL_len SRoute.eqb kf m mk (xs.take i.toNat); simp only [List.length_append, List.length_take] at this ⊢; omega) (am w I)) (fun o3 _ => ?_))
      refine nil (bN (pN (region (co (Ev.add_i (.t rfl) (.c (v := I 1) rfl) (fun _ => by omega)) ?_))))
      refine mv rfl (nP (nx (X := Int × OV) (i + 1, _) ?_ ?_ (hL := (by rw [hst]; (first | rw [if_pos hq, ← List.append_assoc] | rw [if_neg hq, List.append_nil]); repeat first | exact sR | exact sN | apply sC | apply sS | apply sA))))
      · try dsimp only
        omega
      · try dsimp only
        omega
    · try simp only [nb] at h1
      have hq : ¬ (findV SRoute.eqb (kf (xs.getD i.toNat eRoute.zero)) m).isNone = true := fun e => by
        rw [Option.isNone_iff_eq_none] at e
        rw [e] at h1
        simp at h1
      refine skip (bN (pN (region (co (Ev.add_i (.t rfl) (.c (v := I 1) rfl) (fun _ => by omega)) ?_))))
      refine mv rfl (nP (nx (X := Int × OV) (i + 1, _) ?_ ?_ (hL := (by rw [hst]; (first | rw [if_pos hq, ← List.append_assoc] | rw [if_neg hq, List.append_nil]); repeat first | exact sR | exact sN | apply sC | apply sS | apply sA))))
      · try dsimp only
        omega
      · try dsimp only
        omega
  · try simp only [nb] at h0
    refine exit (pX (pX (bX (done' rfl .nil (fun w I => ?_)))))
    have et : xs.take i.toNat = xs := List.take_of_length_le (by omega)
    rw [et] at I
    exact retR (r' := fun o2 => S0 o2 (cs ++ goneL SRoute.eqb kf m mk xs)) _ trivial rfl (List.mem_singleton_self _) w (I.sub (by repeat first | exact sR | exact sN | apply sC | apply sS | apply sA))
theorem gone_50_52 (fk ft : Nat) (cap : List Value) (kf : SRoute → SPrefix) (mk : SRoute → SChange) (b : Nat) (m : List (SPrefix × Int)) (S0 : OV → List SChange → Res) (o : OV) (cs : List SChange) (u : Value) (xs : List SRoute) (w : World) (hek : Gx.Enters Tryz.prog fk) (het : Gx.Enters Tryz.prog ft) (h : At (S0 o cs) w) (hxs : ∀ w1, Keeps (S0 o cs).foot w w1 → IsSl eRoute w1 u xs) (hm : ∀ w1, Keeps (S0 o cs).foot w w1 → MapAt w1 b ePrefix iE m) (hk : FnAt Tryz.prog fk [] (S0 o cs).foot w eRoute ePrefix (fun _ => True) kf) (ht : TellL Tryz.prog ft cap 100000 eRoute S0 (fun _ => True) mk) (hn : cs.length + xs.length < 100000) : Calls Tryz.prog 79 #[u, .map (some b), (clo fk []).v, (clo ft cap).v] w (RetR w (S0 o cs) (fun _ : OV => True) (fun _ => .tuple #[]) (fun o2 => S0 o2 (cs ++ goneL SPrefix.eqb kf m mk xs))) := by
  have hle := (hxs w (Keeps.refl _ _)).le
  refine enter (S0 o cs).foot 32 [S0 o cs] Tryz.func79 rfl rfl (Nat.le_of_ble_eq_true rfl) (start_at h) ?_
  refine sg (mv rfl (co (Ev.len Tryz.underlying23 (.t rfl) (fun w I => hxs w I.keeps)) ?_))
  refine co (Ev.move (.c (v := I 0) rfl)) ?_
  refine nP (block (lp (X := Int × OV) (fun x : Int × OV => (0 ≤ x.1 ∧ x.1 ≤ xs.length)) (fun x : Int × OV => [(1, true, .map (some b)), (2, true, (clo fk []).v), (3, true, (clo ft cap).v), (12, true, u), (13, true, I xs.length), (14, true, I x.1)]) (fun x : Int × OV => [S0 x.2 (cs ++ goneL SPrefix.eqb kf m mk (xs.take x.1.toNat))]) (fun x : Int × OV => ((xs.length : Int) - x.1).toNat) (0, o) ?_ (fun x hx => ?_) (hL := (by simp only [show (0 : Int).toNat = 0 from rfl, List.take_zero, goneL, List.filter_nil, List.map_nil, List.append_nil]; repeat first | exact sR | exact sN | apply sC | apply sS | apply sA))))
  · omega
  obtain ⟨i, p⟩ := x
  have hi : 0 ≤ i ∧ i ≤ xs.length := hx
  clear hx
  show Sat _ _ [(1, true, .map (some b)), (2, true, (clo fk []).v), (3, true, (clo ft cap).v), (12, true, u), (13, true, I xs.length), (14, true, I i)] [S0 p (cs ++ goneL SPrefix.eqb kf m mk (xs.take i.toNat))]
  refine sg (co (Ev.lss_i (.t rfl) (.t rfl)) ?_)
  refine nP (seq ?_)
  first | refine condD rfl (fun h0 => ?_) (fun h0 => ?_) | refine cond rfl (fun h0 => ?_) (fun h0 => ?_)
  · try simp only [nb] at h0
    refine skip (pN (seq (block (sg (co (Ev.indexAddr Tryz.underlying23 ty52 (.t rfl) (.t rfl) (fun w I => hxs w I.keeps) (fun _ => by omega)) ?_)))))
    refine co (Ev.loadS0 ty52 (.t rfl) (fun w I => hxs w I.keeps) (fun _ => by omega)) ?_
    refine cons (alloc z52 (fun b1 => ?_))
    refine cons (stv ty52 (Lens.id _) (.t rfl) (.t rfl) ?_)
    refine nP (sg ?_)
    have hst := goneL_step SPrefix.eqb kf m mk xs eRoute.zero (i := i) (by omega)
    refine mv rfl (mv rfl (co (Ev.ldv ty52 (.t rfl) (Lens.id _)) ?_))
    refine cons (callcv (.t rfl) hek (.cons (.t rfl) .nil) (fun w I => hk (xs.getD i.toNat eRoute.zero) w trivial I.keeps) ?_)
    refine co (Ev.lookupT Tryz.underlying81 Tryz.underlying50 key50 z3 (.t rfl) (.t rfl) (fun _ => (fun w I => hm w I.keeps))) ?_
    refine mv rfl (co (Ev.extract (.t rfl) rfl) (co (Ev.extract (.t rfl) rfl) (asn rfl (asn rfl (nP (sg (mv rfl (co (Ev.not (.t rfl)) ?_))))))))
    refine nP ?_
    first | refine condD rfl (fun h1 => ?_) (fun h1 => ?_) | refine cond rfl (fun h1 => ?_) (fun h1 => ?_)
    · try simp only [nb] at h1
      have hq : (findV SPrefix.eqb (kf (xs.getD i.toNat eRoute.zero)) m).isNone = true := by simpa using h1
      refine region (mv rfl (co (Ev.ldv ty52 (.t rfl) (Lens.id _)) ?_))
      refine cons (callcr (X := OV) (r := S0 p (cs ++ goneL SPrefix.eqb kf m mk (xs.take i.toNat))) (r' := fun o2 => S0 o2 (cs ++ goneL SPrefix.eqb kf m mk (xs.take i.toNat) ++ [mk (xs.getD i.toNat eRoute.zero)])) (fun _ => True) (fun _ => .tuple #[]) (fun _ => by repeat first | exact Upd.head | apply Upd.tail | apply Upd.right) (.t rfl) het (.cons (.t rfl) .nil) (fun w I => ht (xs.getD i.toNat eRoute.zero) p _ w trivial (by have := goneL_len SPrefix.eqb kf m mk (xs.take i.toNat); simp only [List.length_append, List.length_take] at this ⊢; omega) (am w I)) (fun o3 _ => ?_))
      refine nil (bN (pN (region (co (Ev.add_i (.t rfl) (.c (v := I 1) rfl) (fun _ => by omega)) ?_))))
      refine mv rfl (nP (nx (X := Int × OV) (i + 1, _) ?_ ?_ (hL := (by rw [hst]; (first | rw [if_pos hq, ← List.append_assoc] | rw [if_neg hq, List.append_nil]); repeat first | exact sR | exact sN | apply sC | apply sS | apply sA))))
      · try dsimp only
        omega
      · try dsimp only
        omega
    · try simp only [nb] at h1
      have hq : ¬ (findV SPrefix.eqb (kf (xs.getD i.toNat eRoute.zero)) m).isNone = true := fun e => by
        rw [Option.isNone_iff_eq_none] at e
        rw [e] at h1
        simp at h1
      refine skip (bN (pN (region (co (Ev.add_i (.t rfl) (.c (v := I 1) rfl) (fun _ => by omega)) ?_))))
      refine mv rfl (nP (nx (X := Int × OV) (i + 1, _) ?_ ?_ (hL := (by rw [hst]; (first | rw [if_pos hq, ← List.append_assoc] | rw [if_neg hq, List.append_nil]); repeat first | exact sR | exact sN | apply sC | apply sS | apply sA))))
      · try dsimp only
        omega
      · try dsimp only
        omega
  · try simp only [nb] at h0
    refine exit (pX (pX (bX (done' rfl .nil (fun w I => ?_)))))
    have et : xs.take i.toNat = xs := List.take_of_length_le (by omega)
    rw [et] at I
    exact retR (r' := fun o2 => S0 o2 (cs ++ goneL SPrefix.eqb kf m mk xs)) _ trivial rfl (List.mem_singleton_self _) w (I.sub (by repeat first | exact sR | exact sN | apply sC | apply sS | apply sA))
theorem gone_9_57 (fk ft : Nat) (cap : List Value) (kf : SMeterConf → ByteArray) (mk : SMeterConf → SChange) (b : Nat) (m : List (ByteArray × Int)) (S0 : OV → List SChange → Res) (o : OV) (cs : List SChange) (u : Value) (xs : List SMeterConf) (w : World) (hek : Gx.Enters Tryz.prog fk) (het : Gx.Enters Tryz.prog ft) (h : At (S0 o cs) w) (hxs : ∀ w1, Keeps (S0 o cs).foot w w1 → IsSl eMeterConf w1 u xs) (hm : ∀ w1, Keeps (S0 o cs).foot w w1 → MapAt w1 b sE iE m) (hk : FnAt Tryz.prog fk [] (S0 o cs).foot w eMeterConf sE (fun _ => True) kf) (ht : TellL Tryz.prog ft cap 100000 eMeterConf S0 (fun _ => True) mk) (hn : cs.length + xs.length < 100000) : Calls Tryz.prog 82 #[u, .map (some b), (clo fk []).v, (clo ft cap).v] w (RetR w (S0 o cs) (fun _ : OV => True) (fun _ => .tuple #[]) (fun o2 => S0 o2 (cs ++ goneL eqs kf m mk xs))) := by
  have hle := (hxs w (Keeps.refl _ _)).le
  refine enter (S0 o cs).foot 32 [S0 o cs] Tryz.func82 rfl rfl (Nat.le_of_ble_eq_true rfl) (start_at h) ?_
  refine sg (mv rfl (co (Ev.len Tryz.underlying25 (.t rfl) (fun w I => hxs w I.keeps)) ?_))
  refine co (Ev.move (.c (v := I 0) rfl)) ?_
  refine nP (block (lp (X := Int × OV) (fun x : Int × OV => (0 ≤ x.1 ∧ x.1 ≤ xs.length)) (fun x : Int × OV => [(1, true, .map (some b)), (2, true, (clo fk []).v), (3, true, (clo ft cap).v), (12, true, u), (13, true, I xs.length), (14, true, I x.1)]) (fun x : Int × OV => [S0 x.2 (cs ++ goneL eqs kf m mk (xs.take x.1.toNat))]) (fun x : Int × OV => ((xs.length : Int) - x.1).toNat) (0, o) ?_ (fun x hx => ?_) (hL := (by simp only [show (0 : Int).toNat = 0 from rfl, List.take_zero, goneL, List.filter_nil, List.map_nil, List.append_nil]; repeat first | exact sR | exact sN | apply sC | apply sS | apply sA))))
  · omega
  obtain ⟨i, p⟩ := x
  have hi : 0 ≤ i ∧ i ≤ xs.length := hx
  clear hx
  show Sat _ _ [(1, true, .map (some b)), (2, true, (clo fk []).v), (3, true, (clo ft cap).v), (12, true, u), (13, true, I xs.length), (14, true, I i)] [S0 p (cs ++ goneL eqs kf m mk (xs.take i.toNat))]
  refine sg (co (Ev.lss_i (.t rfl) (.t rfl)) ?_)
  refine nP (seq ?_)
  first | refine condD rfl (fun h0 => ?_) (fun h0 => ?_) | refine cond rfl (fun h0 => ?_) (fun h0 => ?_)
  · try simp only [nb] at h0
    refine skip (pN (seq (block (sg (co (Ev.indexAddr Tryz.underlying25 ty57 (.t rfl) (.t rfl) (fun w I => hxs w I.keeps) (fun _ => by omega)) ?_)))))
    refine co (Ev.loadS0 ty57 (.t rfl) (fun w I => hxs w I.keeps) (fun _ => by omega)) ?_
    refine cons (alloc z57 (fun b1 => ?_))
    refine cons (stv ty57 (Lens.id _) (.t rfl) (.t rfl) ?_)
    refine nP (sg ?_)
    have hst := goneL_step eqs kf m mk xs eMeterConf.zero (i := i) (by omega)
    refine mv rfl (mv rfl (co (Ev.ldv ty57 (.t rfl) (Lens.id _)) ?_))
    refine cons (callcv (.t rfl) hek (.cons (.t rfl) .nil) (fun w I => hk (xs.getD i.toNat eMeterConf.zero) w trivial I.keeps) ?_)
    refine co (Ev.lookupT Tryz.underlying82 Tryz.underlying9 key9 z3 (.t rfl) (.t rfl) (fun _ => (fun w I => hm w I.keeps))) ?_
    refine mv rfl (co (Ev.extract (.t rfl) rfl) (co (Ev.extract (.t rfl) rfl) (asn rfl (asn rfl (nP (sg (mv rfl (co (Ev.not (.t rfl)) ?_))))))))
    refine nP ?_
    first | refine condD rfl (fun h1 => ?_) (fun h1 => ?_) | refine cond rfl (fun h1 => ?_) (fun h1 => ?_)
    · try simp only [nb] at h1
      have hq : (findV eqs (kf (xs.getD i.toNat eMeterConf.zero)) m).isNone = true := by simpa using h1
      refine region (mv rfl (co (Ev.ldv ty57 (.t rfl) (Lens.id _)) ?_))
      refine cons (callcr (X := OV) (r := S0 p (cs ++ goneL eqs kf m mk (xs.take i.toNat))) (r' := fun o2 => S0 o2 (cs ++ goneL eqs kf m mk (xs.take i.toNat) ++ [mk (xs.getD i.toNat eMeterConf.zero)])) (fun _ => True) (fun _ => .tuple #[]) (fun _ => by repeat first | exact Upd.head | apply Upd.tail | apply Upd.right) (.t rfl) het (.cons (.t rfl) .nil) (fun w I => ht (xs.getD i.toNat eMeterConf.zero) p _ w trivial (by have := goneL_len eqs kf m mk (xs.take i.toNat); simp only [List.length_append, List.length_take] at this ⊢; omega) (am w I)) (fun o3 _ => ?_))
      refine nil (bN (pN (region (co (Ev.add_i (.t rfl) (.c (v := I 1) rfl) (fun _ => by omega)) ?_))))
      refine mv rfl (nP (nx (X := Int × OV) (i + 1, _) ?_ ?_ (hL := (by rw [hst]; (first | rw [if_pos hq, ← List.append_assoc] | rw [if_neg hq, List.append_nil]); repeat first | exact sR | exact sN | apply sC | apply sS | apply sA))))
      · try dsimp only
        omega
      · try dsimp only
        omega
    · try simp only [nb] at h1
      have hq : ¬ (findV eqs (kf (xs.getD i.toNat eMeterConf.zero)) m).isNone = true := fun e => by
        rw [Option.isNone_iff_eq_none] at e
        rw [e] at h1
        simp at h1
      refine skip (bN (pN (region (co (Ev.add_i (.t rfl) (.c (v := I 1) rfl) (fun _ => by omega)) ?_))))
      refine mv rfl (nP (nx (X := Int × OV) (i + 1, _) ?_ ?_ (hL := (by rw [hst]; (first | rw [if_pos hq, ← List.append_assoc] | rw [if_neg hq, List.append_nil]); repeat first | exact sR | exact sN | apply sC | apply sS | apply sA))))
      · try dsimp only
        omega
      · try dsimp only
        omega
  · try simp only [nb] at h0
    refine exit (pX (pX (bX (done' rfl .nil (fun w I => ?_)))))
    have et : xs.take i.toNat = xs := List.take_of_length_le (by omega)
    rw [et] at I
    exact retR (r' := fun o2 => S0 o2 (cs ++ goneL eqs kf m mk xs)) _ trivial rfl (List.mem_singleton_self _) w (I.sub (by repeat first | exact sR | exact sN | apply sC | apply sS | apply sA))
theorem gone_9_59 (fk ft : Nat) (cap : List Value) (kf : SMirrorConf → ByteArray) (mk : SMirrorConf → SChange) (b : Nat) (m : List (ByteArray × Int)) (S0 : OV → List SChange → Res) (o : OV) (cs : List SChange) (u : Value) (xs : List SMirrorConf) (w : World) (hek : Gx.Enters Tryz.prog fk) (het : Gx.Enters Tryz.prog ft) (h : At (S0 o cs) w) (hxs : ∀ w1, Keeps (S0 o cs).foot w w1 → IsSl eMirrorConf w1 u xs) (hm : ∀ w1, Keeps (S0 o cs).foot w w1 → MapAt w1 b sE iE m) (hk : FnAt Tryz.prog fk [] (S0 o cs).foot w eMirrorConf sE (fun _ => True) kf) (ht : TellL Tryz.prog ft cap 100000 eMirrorConf S0 (fun _ => True) mk) (hn : cs.length + xs.length < 100000) : Calls Tryz.prog 85 #[u, .map (some b), (clo fk []).v, (clo ft cap).v] w (RetR w (S0 o cs) (fun _ : OV => True) (fun _ => .tuple #[]) (fun o2 => S0 o2 (cs ++ goneL eqs kf m mk xs))) := by
  have hle := (hxs w (Keeps.refl _ _)).le
  refine enter (S0 o cs).foot 32 [S0 o cs] Tryz.func85 rfl rfl (Nat.le_of_ble_eq_true rfl) (start_at h) ?_
  refine sg (mv rfl (co (Ev.len Tryz.underlying26 (.t rfl) (fun w I => hxs w I.keeps)) ?_))
  refine co (Ev.move (.c (v := I 0) rfl)) ?_
  refine nP (block (lp (X := Int × OV) (fun x : Int × OV => (0 ≤ x.1 ∧ x.1 ≤ xs.length)) (fun x : Int × OV => [(1, true, .map (some b)), (2, true, (clo fk []).v), (3, true, (clo ft cap).v), (12, true, u), (13, true, I xs.length), (14, true, I x.1)]) (fun x : Int × OV => [S0 x.2 (cs ++ goneL eqs kf m mk (xs.take x.1.toNat))]) (fun x : Int × OV => ((xs.length : Int) - x.1).toNat) (0, o) ?_ (fun x hx => ?_) (hL := (by simp only [show (0 : Int).toNat = 0 from rfl, List.take_zero, goneL, List.filter_nil, List.map_nil, List.append_nil]; repeat first | exact sR | exact sN | apply sC | apply sS | apply sA))))
  · omega
  obtain ⟨i, p⟩ := x
  have hi : 0 ≤ i ∧ i ≤ xs.length := hx
  clear hx
  show Sat _ _ [(1, true, .map (some b)), (2, true, (clo fk []).v), (3, true, (clo ft cap).v), (12, true, u), (13, true, I xs.length), (14, true, I i)] [S0 p (cs ++ goneL eqs kf m mk (xs.take i.toNat))]
  refine sg (co (Ev.lss_i (.t rfl) (.t rfl)) ?_)
  refine nP (seq ?_)
  first | refine condD rfl (fun h0 => ?_) (fun h0 => ?_) | refine cond rfl (fun h0 => ?_) (fun h0 => ?_)
  · try simp only [nb] at h0
    refine skip (pN (seq (block (sg (co (Ev.indexAddr Tryz.underlying26 ty59 (.t rfl) (.t rfl) (fun w I => hxs w I.keeps) (fun _ => by omega)) ?_)))))
    refine co (Ev.loadS0 ty59 (.t rfl) (fun w I => hxs w I.keeps) (fun _ => by omega)) ?_
    refine cons (alloc z59 (fun b1 => ?_))
    refine cons (stv ty59 (Lens.id _) (.t rfl) (.t rfl) ?_)
    refine nP (sg ?_)
    have hst := goneL_step eqs kf m mk xs eMirrorConf.zero (i := i) (by omega)
    refine mv rfl (mv rfl (co (Ev.ldv ty59 (.t rfl) (Lens.id _)) ?_))
    refine cons (callcv (.t rfl) hek (.cons (.t rfl) .nil) (fun w I => hk (xs.getD i.toNat eMirrorConf.zero) w trivial I.keeps) ?_)
    refine co (Ev.lookupT Tryz.underlying82 Tryz.underlying9 key9 z3 (.t rfl) (.t rfl) (fun _ => (fun w I => hm w I.keeps))) ?_
    refine mv rfl (co (Ev.extract (.t rfl) rfl) (co (Ev.extract (.t rfl) rfl) (asn rfl (asn rfl (nP (sg (mv rfl (co (Ev.not (.t rfl)) ?_))))))))
    refine nP ?_
    first | refine condD rfl (fun h1 => ?_) (fun h1 => ?_) | refine cond rfl (fun h1 => ?_) (fun h1 => ?_)
    · try simp only [nb] at h1
      have hq : (findV eqs (kf (xs.getD i.toNat eMirrorConf.zero)) m).isNone = true := by simpa using h1
      refine region (mv rfl (co (Ev.ldv ty59 (.t rfl) (Lens.id _)) ?_))
      refine cons (callcr (X := OV) (r := S0 p (cs ++ goneL eqs kf m mk (xs.take i.toNat))) (r' := fun o2 => S0 o2 (cs ++ goneL eqs kf m mk (xs.take i.toNat) ++ [mk (xs.getD i.toNat eMirrorConf.zero)])) (fun _ => True) (fun _ => .tuple #[]) (fun _ => by repeat first | exact Upd.head | apply Upd.tail | apply Upd.right) (.t rfl) het (.cons (.t rfl) .nil) (fun w I => ht (xs.getD i.toNat eMirrorConf.zero) p _ w trivial (by have := goneL_len eqs kf m mk (xs.take i.toNat); simp only [List.length_append, List.length_take] at this ⊢; omega) (am w I)) (fun o3 _ => ?_))
      refine nil (bN (pN (region (co (Ev.add_i (.t rfl) (.c (v := I 1) rfl) (fun _ => by omega)) ?_))))
      refine mv rfl (nP (nx (X := Int × OV) (i + 1, _) ?_ ?_ (hL := (by rw [hst]; (first | rw [if_pos hq, ← List.append_assoc] | rw [if_neg hq, List.append_nil]); repeat first | exact sR | exact sN | apply sC | apply sS | apply sA))))
      · try dsimp only
        omega
      · try dsimp only
        omega
    · try simp only [nb] at h1
      have hq : ¬ (findV eqs (kf (xs.getD i.toNat eMirrorConf.zero)) m).isNone = true := fun e => by
        rw [Option.isNone_iff_eq_none] at e
        rw [e] at h1
        simp at h1
      refine skip (bN (pN (region (co (Ev.add_i (.t rfl) (.c (v := I 1) rfl) (fun _ => by omega)) ?_))))
      refine mv rfl (nP (nx (X := Int × OV) (i + 1, _) ?_ ?_ (hL := (by rw [hst]; (first | rw [if_pos hq, ← List.append_assoc] | rw [if_neg hq, List.append_nil]); repeat first | exact sR | exact sN | apply sC | apply sS | apply sA))))
      · try dsimp only
        omega
      · try dsimp only
        omega
  · try simp only [nb] at h0
    refine exit (pX (pX (bX (done' rfl .nil (fun w I => ?_)))))
    have et : xs.take i.toNat = xs := List.take_of_length_le (by omega)
    rw [et] at I
    exact retR (r' := fun o2 => S0 o2 (cs ++ goneL eqs kf m mk xs)) _ trivial rfl (List.mem_singleton_self _) w (I.sub (by repeat first | exact sR | exact sN | apply sC | apply sS | apply sA))
def diffs (l k : CL) (da db : Int) (rv : OV) : List SChange := (((((((((([] ++ goneL eqd (fun a => a) (portsM l) (fun x => chPort 1 x) k.ps) ++ goneL SMeterConf.eqb (fun a => a) (firstN SMeterConf.eqb (fun a => a) l.ms l.ms.length) (fun x => chMeter 5 x) k.ms) ++ goneL SMirrorConf.eqb (fun a => a) (firstN SMirrorConf.eqb (fun a => a) l.xs l.xs.length) (fun x => chMirror 7 x) k.xs) ++ goneL SRoute.eqb (fun a => a) (firstN SRoute.eqb (fun a => a) l.rs l.rs.length) (fun x => chRoute 3 x) k.rs) ++ (if l.us = k.us then [] else [chRules rv])) ++ (if da = db then [] else [chDefault db])) ++ goneL SPrefix.eqb (fun a => a.to_) (routesM k) (fun x => chRoute 4 (onlyR x)) l.rs) ++ goneL eqs (fun a => a.name) (metersM k) (fun x => chMeter 6 (onlyM x)) l.ms) ++ goneL eqs (fun a => a.name) (mirrorsM k) (fun x => chMirror 8 (onlyX x)) l.xs) ++ goneL eqd (fun a => a) (portsM k) (fun x => chPort 2 x) l.ps)
def bothB (l k : CL) (da db : Int) : Bool := mayB l da && mayB k db
def diffE (l k : CL) (da db : Int) : Int := if bothB l k da db = true then 0 else 210
def diffL (l k : CL) (da db : Int) (rv : OV) : List SChange := if bothB l k da db = true then diffs l k da db rv else []
def diffR (l k : CL) (da db : Int) : List SRule := if bothB l k da db = true then (if l.us = k.us then [] else k.us) else []
theorem ite_len {α : Type} {p : Prop} [Decidable p] (x : α) : (if p then [] else [x]).length ≤ 1 := by split <;> simp
theorem listG_nil {e : Nat → Int} {d : Int} {n most : Nat} (h : listG e d n most = []) : n ≤ most := by
  unfold listG at h
  have h2 := (List.append_eq_nil_iff.1 h).2
  by_cases hm : most < n
  · rw [if_pos hm] at h2; cases h2
  · omega
theorem may_lens {l : CL} {d : Int} (h : mayB l d = true) : l.ps.length ≤ 256 ∧ l.rs.length ≤ 1024 ∧ l.us.length ≤ 256 ∧ l.ms.length ≤ 64 ∧ l.xs.length ≤ 16 := by
  unfold mayB checkF thingsF at h
  have h := (List.append_eq_nil_iff.1 (of_decide_eq_true h)).1
  have e5 := List.append_eq_nil_iff.1 h
  have e4 := List.append_eq_nil_iff.1 e5.1
  have e3 := List.append_eq_nil_iff.1 e4.1
  have e2 := List.append_eq_nil_iff.1 e3.1
  have e1 := List.append_eq_nil_iff.1 e2.1
  exact ⟨listG_nil e1.2, listG_nil e2.2, listG_nil e3.2, listG_nil e4.2, listG_nil e5.2⟩
theorem en65 : Gx.Enters Tryz.prog 65 := Gx.Enters.mk' (by kernel_rfl)
theorem en66 : Gx.Enters Tryz.prog 66 := Gx.Enters.mk' (by kernel_rfl)
theorem en69 : Gx.Enters Tryz.prog 69 := Gx.Enters.mk' (by kernel_rfl)
theorem en70 : Gx.Enters Tryz.prog 70 := Gx.Enters.mk' (by kernel_rfl)
theorem en73 : Gx.Enters Tryz.prog 73 := Gx.Enters.mk' (by kernel_rfl)
theorem en74 : Gx.Enters Tryz.prog 74 := Gx.Enters.mk' (by kernel_rfl)
theorem en77 : Gx.Enters Tryz.prog 77 := Gx.Enters.mk' (by kernel_rfl)
theorem en78 : Gx.Enters Tryz.prog 78 := Gx.Enters.mk' (by kernel_rfl)
theorem en80 : Gx.Enters Tryz.prog 80 := Gx.Enters.mk' (by kernel_rfl)
theorem en81 : Gx.Enters Tryz.prog 81 := Gx.Enters.mk' (by kernel_rfl)
theorem en83 : Gx.Enters Tryz.prog 83 := Gx.Enters.mk' (by kernel_rfl)
theorem en84 : Gx.Enters Tryz.prog 84 := Gx.Enters.mk' (by kernel_rfl)
theorem en86 : Gx.Enters Tryz.prog 86 := Gx.Enters.mk' (by kernel_rfl)
theorem en87 : Gx.Enters Tryz.prog 87 := Gx.Enters.mk' (by kernel_rfl)
theorem en88 : Gx.Enters Tryz.prog 88 := Gx.Enters.mk' (by kernel_rfl)
theorem en15 : Gx.Enters Tryz.prog 15 := Gx.Enters.mk' (by kernel_rfl)
theorem z41 : (Tryz.prog.info? 41).bind (·.zero) = some ((ovE nilSl).val (ovE nilSl).zero) := by kernel_rfl
theorem z113 : (Tryz.prog.info? 113).bind (·.zero) = some ((ovE nilFn).val (ovE nilFn).zero) := by kernel_rfl
theorem en64 : Gx.Enters Tryz.prog 64 := Gx.Enters.mk' (by kernel_rfl)
theorem en68 : Gx.Enters Tryz.prog 68 := Gx.Enters.mk' (by kernel_rfl)
theorem en67 : Gx.Enters Tryz.prog 67 := Gx.Enters.mk' (by kernel_rfl)
theorem en72 : Gx.Enters Tryz.prog 72 := Gx.Enters.mk' (by kernel_rfl)
theorem en71 : Gx.Enters Tryz.prog 71 := Gx.Enters.mk' (by kernel_rfl)
theorem en76 : Gx.Enters Tryz.prog 76 := Gx.Enters.mk' (by kernel_rfl)
theorem en75 : Gx.Enters Tryz.prog 75 := Gx.Enters.mk' (by kernel_rfl)
theorem en79 : Gx.Enters Tryz.prog 79 := Gx.Enters.mk' (by kernel_rfl)
theorem en82 : Gx.Enters Tryz.prog 82 := Gx.Enters.mk' (by kernel_rfl)
theorem en85 : Gx.Enters Tryz.prog 85 := Gx.Enters.mk' (by kernel_rfl)
theorem diff_ok (a b : SConf) (l k : CL) (w : World) (ha : ConfAt w a l) (hb : ConfAt w b k) (hln : l.Names) (hkn : k.Names) (hlz : l.n ≤ 4611686018427387904) (hkz : k.n ≤ 4611686018427387904) : Calls Tryz.prog 23 #[eConf.val a, eConf.val b] w (RetN w (fun _ : OV × OV => True) (fun x => .tuple #[x.1.v, I (diffE l k a.default b.default)]) (fun x => [OwnS x.1.v eChange (diffL l k a.default b.default x.2) 61, OwnS x.2.v eRule (diffR l k a.default b.default) 76])) := by
  refine en0 97 Tryz.func23 ?_
  refine sg (cons (box (E := eConf) (.t rfl) (fun b1 => ?_)))
  refine cons (box (E := eConf) (.t rfl) (fun b2 => ?_))
  refine co (Ev.assign (.c (v := (Go.Value.slice none 0 0)) rfl)) ?_
  refine co (Ev.assign (.c (v := I 0) rfl)) ?_
  refine nP (seq (sg (co (Ev.ldx a ty28 (.t rfl) (Lens.id _)) ?_)))
  refine cons (callv en15 (.cons (.t rfl) .nil) (fun w I => may_ok a l w (ha.keep0 I.keeps) hln hlz) ?_)
  refine co (Ev.not (.t rfl)) ?_
  refine mv rfl (cg rfl rfl (Ev.ldx b ty28 (.t rfl) (Lens.id _)) ?_)
  refine cons (callg rfl rfl en15 (.cons (.g rfl id) .nil) (fun hg w I => may_ok b k w (hb.keep0 I.keeps) hkn hkz) ?_)
  refine cg rfl rfl (Ev.not (.g rfl id)) ?_
  refine co (Ev.pkO (.t rfl) rfl) ?_
  refine nP ?_
  first | refine condD rfl (fun h0 => ?_) (fun h0 => ?_) | refine cond rfl (fun h0 => ?_) (fun h0 => ?_)
  · have hbo : bothB l k a.default b.default = false := by
      unfold bothB
      rw [Bool.and_eq_false_iff]
      simpa using h0
    refine sg (takeNil eRule 76 ?_)
    refine takeNil eChange 61 ?_
    refine co (Ev.assign (.c (v := (Go.Value.slice none 0 0)) rfl)) ?_
    refine co (Ev.assign (.c (v := I 210) rfl)) ?_
    refine nP (ret (pR (done rfl (.tmp rfl (.tmp rfl .nil)) (fun w I => ?_))))
    exact retNP (nilSl, nilSl) trivial (by unfold diffE; rw [hbo]; rfl) (by unfold diffL diffR; rw [hbo]; exact (by repeat first | exact SubP.nil | refine SubP.cons (by repeat first | exact Rem.head | apply Rem.tail) ?_)) w I
  · have hbo : bothB l k a.default b.default = true := by
      unfold bothB
      simpa using h0
    have hbl := may_lens (Bool.and_eq_true_iff.1 hbo).1
    have hbk := may_lens (Bool.and_eq_true_iff.1 hbo).2
    refine skip (pN (sg (cons (alloc z41 (fun b3 => ?_)))))
    refine nP (sg (co (Ev.makeFunc (f := 63) (.cons (.t rfl) .nil)) ?_))
    refine cons (alloc z113 (fun b4 => ?_))
    refine cons (stv ty113 (Lens.id _) (.t rfl) (.t rfl) ?_)
    refine nP (cut (X := KB × KB × Nat × Nat) (fun x : KB × KB × Nat × Nat => True) (fun x : KB × KB × Nat × Nat => [(2, true, .pointer (some ⟨b1, 0, none⟩)), (3, true, .pointer (some ⟨b2, 0, none⟩)), (6, true, .pointer (some ⟨b3, 0, none⟩)), (7, true, .pointer (some ⟨b4, 0, none⟩)), (8, true, .pointer (some ⟨x.2.2.1, 0, none⟩)), (9, true, .pointer (some ⟨x.2.2.2, 0, none⟩))]) (fun x : KB × KB × Nat × Nat => [DR b4 b3 nilSl [], Var x.2.2.1 eConfKnown x.1.k 84, Var x.2.2.2 eConfKnown x.2.1.k 84, KnR x.1 l, KnR x.2.1 k, Var b2 eConf b 28, Var b1 eConf a 28]) ?_ (fun x hx => ?_))
    · refine takeNil eChange 61 ?_
      refine sepIn (r := Var b3 (ovE nilSl) nilSl 41) (s := OwnS nilSl.v eChange [] 61) (Rem.tail (Rem.tail Rem.head)) Rem.head ?_
      refine sepIn (r := Var b4 (ovE nilFn) (clo 63 [.pointer (some ⟨b3, 0, none⟩)]) 113) (s := OR b3 nilSl []) (Rem.tail Rem.head) Rem.head ?_
      refine draw' (by kernel_rfl) ?_
      refine tk 0 rfl (Ev.ldx a ty28 (.t rfl) (Lens.id _)) ?_
      refine tk 2 rfl (Ev.ldx b ty28 (.t rfl) (Lens.id _)) ?_
      refine all [1, 4, 5] (by kernel_rfl) (by decide) (.cons rfl ?_ (.cons rfl ?_ (.cons rfl ?_ .nil)))
      · refine (calln (X := KB) (fun _ => True) (fun x => eConfKnown.val x.k) (fun x => x.R l) en36 (.cons (.t rfl) .nil) (fun w I => of_ok _ l w (ha.keep0 I.keeps)) (fun ka _ => known_in ?_))
        refine hdn (all [3, 4, 5] (by kernel_rfl) (by decide) (.cons rfl ?_ (.cons rfl ?_ (.cons rfl ?_ .nil))))
        · refine (calln (X := KB) (fun _ => True) (fun x => eConfKnown.val x.k) (fun x => x.R k) en36 (.cons (.t rfl) .nil) (fun w I => of_ok _ k w (hb.keep0 I.keeps)) (fun kb _ => known_in ?_))
          refine hdn (all [4, 5] (by kernel_rfl) (by decide) (.cons rfl ?_ (.cons rfl ?_ .nil)))
          · refine (alloc z84 (fun b5 => ?_))
            refine hdn (al1 5 rfl ((alloc z84 (fun b6 => ?_))))
            refine hdn (al1 6 rfl ((stv ty84 (Lens.id _) (.t rfl) (.t rfl) ?_)))
            refine hdn (al1 7 rfl ((stv ty84 (Lens.id _) (.t rfl) (.t rfl) ?_)))
            refine hdn (ovr (pN (mtP (X := KB × KB × Nat × Nat) (_, _, _, _) trivial)))
          · refine (alloc z84 (fun b7 => ?_))
            refine hdn (al1 4 rfl ((alloc z84 (fun b8 => ?_))))
            refine hdn (al1 6 rfl ((stv ty84 (Lens.id _) (.t rfl) (.t rfl) ?_)))
            refine hdn (al1 7 rfl ((stv ty84 (Lens.id _) (.t rfl) (.t rfl) ?_)))
            refine hdn (ovr (pN (mtP (X := KB × KB × Nat × Nat) (_, _, _, _) trivial)))
        · refine (alloc z84 (fun b9 => ?_))
          refine hdn (all [3, 5] (by kernel_rfl) (by decide) (.cons rfl ?_ (.cons rfl ?_ .nil)))
          · refine (calln (X := KB) (fun _ => True) (fun x => eConfKnown.val x.k) (fun x => x.R k) en36 (.cons (.t rfl) .nil) (fun w I => of_ok _ k w (hb.keep0 I.keeps)) (fun kb _ => known_in ?_))
            refine hdn (al1 5 rfl ((alloc z84 (fun b10 => ?_))))
            refine hdn (al1 6 rfl ((stv ty84 (Lens.id _) (.t rfl) (.t rfl) ?_)))
            refine hdn (al1 7 rfl ((stv ty84 (Lens.id _) (.t rfl) (.t rfl) ?_)))
            refine hdn (ovr (pN (mtP (X := KB × KB × Nat × Nat) (_, _, _, _) trivial)))
          · refine (alloc z84 (fun b11 => ?_))
            refine hdn (al1 3 rfl ((calln (X := KB) (fun _ => True) (fun x => eConfKnown.val x.k) (fun x => x.R k) en36 (.cons (.t rfl) .nil) (fun w I => of_ok _ k w (hb.keep0 I.keeps)) (fun kb _ => known_in ?_))))
            refine hdn (al1 6 rfl ((stv ty84 (Lens.id _) (.t rfl) (.t rfl) ?_)))
            refine hdn (al1 7 rfl ((stv ty84 (Lens.id _) (.t rfl) (.t rfl) ?_)))
            refine hdn (ovr (pN (mtP (X := KB × KB × Nat × Nat) (_, _, _, _) trivial)))
        · refine (alloc z84 (fun b12 => ?_))
          refine hdn (all [3, 4] (by kernel_rfl) (by decide) (.cons rfl ?_ (.cons rfl ?_ .nil)))
          · refine (calln (X := KB) (fun _ => True) (fun x => eConfKnown.val x.k) (fun x => x.R k) en36 (.cons (.t rfl) .nil) (fun w I => of_ok _ k w (hb.keep0 I.keeps)) (fun kb _ => known_in ?_))
            refine hdn (al1 4 rfl ((alloc z84 (fun b13 => ?_))))
            refine hdn (al1 6 rfl ((stv ty84 (Lens.id _) (.t rfl) (.t rfl) ?_)))
            refine hdn (al1 7 rfl ((stv ty84 (Lens.id _) (.t rfl) (.t rfl) ?_)))
            refine hdn (ovr (pN (mtP (X := KB × KB × Nat × Nat) (_, _, _, _) trivial)))
          · refine (alloc z84 (fun b14 => ?_))
            refine hdn (al1 3 rfl ((calln (X := KB) (fun _ => True) (fun x => eConfKnown.val x.k) (fun x => x.R k) en36 (.cons (.t rfl) .nil) (fun w I => of_ok _ k w (hb.keep0 I.keeps)) (fun kb _ => known_in ?_))))
            refine hdn (al1 6 rfl ((stv ty84 (Lens.id _) (.t rfl) (.t rfl) ?_)))
            refine hdn (al1 7 rfl ((stv ty84 (Lens.id _) (.t rfl) (.t rfl) ?_)))
            refine hdn (ovr (pN (mtP (X := KB × KB × Nat × Nat) (_, _, _, _) trivial)))
      · refine (alloc z84 (fun b15 => ?_))
        refine hdn (all [1, 5] (by kernel_rfl) (by decide) (.cons rfl ?_ (.cons rfl ?_ .nil)))
        · refine (calln (X := KB) (fun _ => True) (fun x => eConfKnown.val x.k) (fun x => x.R l) en36 (.cons (.t rfl) .nil) (fun w I => of_ok _ l w (ha.keep0 I.keeps)) (fun ka _ => known_in ?_))
          refine hdn (all [3, 5] (by kernel_rfl) (by decide) (.cons rfl ?_ (.cons rfl ?_ .nil)))
          · refine (calln (X := KB) (fun _ => True) (fun x => eConfKnown.val x.k) (fun x => x.R k) en36 (.cons (.t rfl) .nil) (fun w I => of_ok _ k w (hb.keep0 I.keeps)) (fun kb _ => known_in ?_))
            refine hdn (al1 5 rfl ((alloc z84 (fun b16 => ?_))))
            refine hdn (al1 6 rfl ((stv ty84 (Lens.id _) (.t rfl) (.t rfl) ?_)))
            refine hdn (al1 7 rfl ((stv ty84 (Lens.id _) (.t rfl) (.t rfl) ?_)))
            refine hdn (ovr (pN (mtP (X := KB × KB × Nat × Nat) (_, _, _, _) trivial)))
          · refine (alloc z84 (fun b17 => ?_))
            refine hdn (al1 3 rfl ((calln (X := KB) (fun _ => True) (fun x => eConfKnown.val x.k) (fun x => x.R k) en36 (.cons (.t rfl) .nil) (fun w I => of_ok _ k w (hb.keep0 I.keeps)) (fun kb _ => known_in ?_))))
            refine hdn (al1 6 rfl ((stv ty84 (Lens.id _) (.t rfl) (.t rfl) ?_)))
            refine hdn (al1 7 rfl ((stv ty84 (Lens.id _) (.t rfl) (.t rfl) ?_)))
            refine hdn (ovr (pN (mtP (X := KB × KB × Nat × Nat) (_, _, _, _) trivial)))
        · refine (alloc z84 (fun b18 => ?_))
          refine hdn (al1 1 rfl ((calln (X := KB) (fun _ => True) (fun x => eConfKnown.val x.k) (fun x => x.R l) en36 (.cons (.t rfl) .nil) (fun w I => of_ok _ l w (ha.keep0 I.keeps)) (fun ka _ => known_in ?_))))
          refine hdn (al1 3 rfl ((calln (X := KB) (fun _ => True) (fun x => eConfKnown.val x.k) (fun x => x.R k) en36 (.cons (.t rfl) .nil) (fun w I => of_ok _ k w (hb.keep0 I.keeps)) (fun kb _ => known_in ?_))))
          refine hdn (al1 6 rfl ((stv ty84 (Lens.id _) (.t rfl) (.t rfl) ?_)))
          refine hdn (al1 7 rfl ((stv ty84 (Lens.id _) (.t rfl) (.t rfl) ?_)))
          refine hdn (ovr (pN (mtP (X := KB × KB × Nat × Nat) (_, _, _, _) trivial)))
      · refine (alloc z84 (fun b19 => ?_))
        refine hdn (all [1, 4] (by kernel_rfl) (by decide) (.cons rfl ?_ (.cons rfl ?_ .nil)))
        · refine (calln (X := KB) (fun _ => True) (fun x => eConfKnown.val x.k) (fun x => x.R l) en36 (.cons (.t rfl) .nil) (fun w I => of_ok _ l w (ha.keep0 I.keeps)) (fun ka _ => known_in ?_))
          refine hdn (all [3, 4] (by kernel_rfl) (by decide) (.cons rfl ?_ (.cons rfl ?_ .nil)))
          · refine (calln (X := KB) (fun _ => True) (fun x => eConfKnown.val x.k) (fun x => x.R k) en36 (.cons (.t rfl) .nil) (fun w I => of_ok _ k w (hb.keep0 I.keeps)) (fun kb _ => known_in ?_))
            refine hdn (al1 4 rfl ((alloc z84 (fun b20 => ?_))))
            refine hdn (al1 6 rfl ((stv ty84 (Lens.id _) (.t rfl) (.t rfl) ?_)))
            refine hdn (al1 7 rfl ((stv ty84 (Lens.id _) (.t rfl) (.t rfl) ?_)))
            refine hdn (ovr (pN (mtP (X := KB × KB × Nat × Nat) (_, _, _, _) trivial)))
          · refine (alloc z84 (fun b21 => ?_))
            refine hdn (al1 3 rfl ((calln (X := KB) (fun _ => True) (fun x => eConfKnown.val x.k) (fun x => x.R k) en36 (.cons (.t rfl) .nil) (fun w I => of_ok _ k w (hb.keep0 I.keeps)) (fun kb _ => known_in ?_))))
            refine hdn (al1 6 rfl ((stv ty84 (Lens.id _) (.t rfl) (.t rfl) ?_)))
            refine hdn (al1 7 rfl ((stv ty84 (Lens.id _) (.t rfl) (.t rfl) ?_)))
            refine hdn (ovr (pN (mtP (X := KB × KB × Nat × Nat) (_, _, _, _) trivial)))
        · refine (alloc z84 (fun b22 => ?_))
          refine hdn (al1 1 rfl ((calln (X := KB) (fun _ => True) (fun x => eConfKnown.val x.k) (fun x => x.R l) en36 (.cons (.t rfl) .nil) (fun w I => of_ok _ l w (ha.keep0 I.keeps)) (fun ka _ => known_in ?_))))
          refine hdn (al1 3 rfl ((calln (X := KB) (fun _ => True) (fun x => eConfKnown.val x.k) (fun x => x.R k) en36 (.cons (.t rfl) .nil) (fun w I => of_ok _ k w (hb.keep0 I.keeps)) (fun kb _ => known_in ?_))))
          refine hdn (al1 6 rfl ((stv ty84 (Lens.id _) (.t rfl) (.t rfl) ?_)))
          refine hdn (al1 7 rfl ((stv ty84 (Lens.id _) (.t rfl) (.t rfl) ?_)))
          refine hdn (ovr (pN (mtP (X := KB × KB × Nat × Nat) (_, _, _, _) trivial)))
    obtain ⟨ka, kb, p8, p9⟩ := x
    show Sat _ _ [(2, true, .pointer (some ⟨b1, 0, none⟩)), (3, true, .pointer (some ⟨b2, 0, none⟩)), (6, true, .pointer (some ⟨b3, 0, none⟩)), (7, true, .pointer (some ⟨b4, 0, none⟩)), (8, true, .pointer (some ⟨p8, 0, none⟩)), (9, true, .pointer (some ⟨p9, 0, none⟩))] [DR b4 b3 nilSl [], Var p8 eConfKnown ka.k 84, Var p9 eConfKnown kb.k 84, KnR ka l, KnR kb k, Var b2 eConf b 28, Var b1 eConf a 28]
    refine sg (co (fA 0 (.t rfl)) ?_)
    refine co (Ev.ldx b.ports ty22 (.t rfl) SConf.l_ports) ?_
    refine co (fA 0 (.t rfl)) ?_
    refine co (Ev.ldv ty80 (.t rfl) SConfKnown.l_ports) ?_
    refine co (Ev.makeFunc (f := 66) (.cons (.t rfl) .nil)) ?_
    refine cons (callr (X := OV) (r := DR b4 b3 nilSl []) (r' := fun o2 => DR b4 b3 o2 ([] ++ goneL eqd (fun a => a) (portsM l) (fun x => chPort 1 x) k.ps)) (fun _ => True) (fun _ => .tuple #[]) (fun _ => by repeat first | exact Upd.head | apply Upd.tail | apply Upd.right) (by repeat first | exact mH | apply mT | apply mA) en64 (.cons (.t rfl) (.cons (.t rfl) (.cons .f (.cons (.t rfl) .nil)))) (fun w I => gone_3_3 65 66 [.pointer (some ⟨b4, 0, none⟩)] (fun a => a) (fun x => chPort 1 x) ka.b1 (portsM l) (DR b4 b3) nilSl _ _ k.ps w en65 en66 (am w I) (fun w1 k1 => hb.ps.keep0 (I.but (by repeat first | exact Rem.head | apply Rem.tail) k1).keeps) (fun w1 k1 => by have I1 := I.but (by repeat first | exact Rem.head | apply Rem.tail) k1; exact (known_of (x := ka) (l := l) (by repeat first | exact mH | apply mT | apply mA) w1 I1).ps) (its_i_at _ _) (tell2_at b4 b3) (by simp only [List.length_append, List.length_nil]; omega)) (fun o1 _ => ?_))
    refine nP (seq (drawR .head (by kernel_rfl) ?_))
    refine tk 0 rfl (fA 3 (.t rfl)) ?_
    refine tk 1 rfl (Ev.ldx b.meters ty25 (.t rfl) SConf.l_meters) ?_
    refine tk 2 rfl (fA 3 (.t rfl)) ?_
    refine tk 3 rfl (Ev.ldx a.meters ty25 (.t rfl) SConf.l_meters) ?_
    refine tk 5 rfl (Ev.makeFunc (f := 70) (.cons (.t rfl) .nil)) ?_
    refine al1 4 rfl ((calln (X := Nat) (fun _ => True) (fun b => .map (some b)) (fun b => [MapR b eMeterConf iE (firstN SMeterConf.eqb (fun a => a) l.ms l.ms.length)]) en68 (.cons (.t rfl) (.cons .f .nil)) (fun w I => first_57_57 69 [] _ _ l.ms w en69 (ha.keep0 I.keeps).ms (its_m_at _ _)) (fun m7 _ => ?_)))
    refine hdn (al1 6 rfl ((callr (X := OV) (r := DR b4 b3 o1 ([] ++ goneL eqd (fun a => a) (portsM l) (fun x => chPort 1 x) k.ps)) (r' := fun o2 => DR b4 b3 o2 (([] ++ goneL eqd (fun a => a) (portsM l) (fun x => chPort 1 x) k.ps) ++ goneL SMeterConf.eqb (fun a => a) (firstN SMeterConf.eqb (fun a => a) l.ms l.ms.length) (fun x => chMeter 5 x) k.ms)) (fun _ => True) (fun _ => .tuple #[]) (fun _ => by repeat first | exact Upd.head | apply Upd.tail | apply Upd.right) (by repeat first | exact mH | apply mT | apply mA) en67 (.cons (.t rfl) (.cons (.t rfl) (.cons .f (.cons (.t rfl) .nil)))) (fun w I => gone_57_57 69 70 [.pointer (some ⟨b4, 0, none⟩)] (fun a => a) (fun x => chMeter 5 x) m7 (firstN SMeterConf.eqb (fun a => a) l.ms l.ms.length) (DR b4 b3) o1 _ _ k.ms w en69 en70 (am w I) (fun w1 k1 => hb.ms.keep0 (I.but (by repeat first | exact Rem.head | apply Rem.tail) k1).keeps) (fun w1 k1 => by have I1 := I.but (by repeat first | exact Rem.head | apply Rem.tail) k1; exact mapAt_own (by repeat first | exact mH | apply mT | apply mA) w1 I1) (its_m_at _ _) (tell3_at b4 b3) (by simp only [List.length_append, List.length_nil]; have g1 := goneL_len eqd (fun a => a) (portsM l) (fun x => chPort 1 x) k.ps; omega)) (fun o2 _ => ?_))))
    refine hdn (ovr (pN (seq (drawR (.tail .head) (by kernel_rfl) ?_))))
    refine tk 0 rfl (fA 4 (.t rfl)) ?_
    refine tk 1 rfl (Ev.ldx b.mirrors ty26 (.t rfl) SConf.l_mirrors) ?_
    refine tk 2 rfl (fA 4 (.t rfl)) ?_
    refine tk 3 rfl (Ev.ldx a.mirrors ty26 (.t rfl) SConf.l_mirrors) ?_
    refine tk 5 rfl (Ev.makeFunc (f := 74) (.cons (.t rfl) .nil)) ?_
    refine al1 4 rfl ((calln (X := Nat) (fun _ => True) (fun b => .map (some b)) (fun b => [MapR b eMirrorConf iE (firstN SMirrorConf.eqb (fun a => a) l.xs l.xs.length)]) en72 (.cons (.t rfl) (.cons .f .nil)) (fun w I => first_59_59 73 [] _ _ l.xs w en73 (ha.keep0 I.keeps).xs (its_x_at _ _)) (fun m8 _ => ?_)))
    refine hdn (al1 6 rfl ((callr (X := OV) (r := DR b4 b3 o2 (([] ++ goneL eqd (fun a => a) (portsM l) (fun x => chPort 1 x) k.ps) ++ goneL SMeterConf.eqb (fun a => a) (firstN SMeterConf.eqb (fun a => a) l.ms l.ms.length) (fun x => chMeter 5 x) k.ms)) (r' := fun o2 => DR b4 b3 o2 ((([] ++ goneL eqd (fun a => a) (portsM l) (fun x => chPort 1 x) k.ps) ++ goneL SMeterConf.eqb (fun a => a) (firstN SMeterConf.eqb (fun a => a) l.ms l.ms.length) (fun x => chMeter 5 x) k.ms) ++ goneL SMirrorConf.eqb (fun a => a) (firstN SMirrorConf.eqb (fun a => a) l.xs l.xs.length) (fun x => chMirror 7 x) k.xs)) (fun _ => True) (fun _ => .tuple #[]) (fun _ => by repeat first | exact Upd.head | apply Upd.tail | apply Upd.right) (by repeat first | exact mH | apply mT | apply mA) en71 (.cons (.t rfl) (.cons (.t rfl) (.cons .f (.cons (.t rfl) .nil)))) (fun w I => gone_59_59 73 74 [.pointer (some ⟨b4, 0, none⟩)] (fun a => a) (fun x => chMirror 7 x) m8 (firstN SMirrorConf.eqb (fun a => a) l.xs l.xs.length) (DR b4 b3) o2 _ _ k.xs w en73 en74 (am w I) (fun w1 k1 => hb.xs.keep0 (I.but (by repeat first | exact Rem.head | apply Rem.tail) k1).keeps) (fun w1 k1 => by have I1 := I.but (by repeat first | exact Rem.head | apply Rem.tail) k1; exact mapAt_own (by repeat first | exact mH | apply mT | apply mA) w1 I1) (its_x_at _ _) (tell4_at b4 b3) (by simp only [List.length_append, List.length_nil]; have g1 := goneL_len eqd (fun a => a) (portsM l) (fun x => chPort 1 x) k.ps; have g2 := goneL_len SMeterConf.eqb (fun a => a) (firstN SMeterConf.eqb (fun a => a) l.ms l.ms.length) (fun x => chMeter 5 x) k.ms; omega)) (fun o3 _ => ?_))))
    refine hdn (ovr (pN (seq (drawR (.tail (.tail .head)) (by kernel_rfl) ?_))))
    refine tk 0 rfl (fA 1 (.t rfl)) ?_
    refine tk 1 rfl (Ev.ldx b.routes ty23 (.t rfl) SConf.l_routes) ?_
    refine tk 2 rfl (fA 1 (.t rfl)) ?_
    refine tk 3 rfl (Ev.ldx a.routes ty23 (.t rfl) SConf.l_routes) ?_
    refine tk 5 rfl (Ev.makeFunc (f := 78) (.cons (.t rfl) .nil)) ?_
    refine al1 4 rfl ((calln (X := Nat) (fun _ => True) (fun b => .map (some b)) (fun b => [MapR b eRoute iE (firstN SRoute.eqb (fun a => a) l.rs l.rs.length)]) en76 (.cons (.t rfl) (.cons .f .nil)) (fun w I => first_52_52 77 [] _ _ l.rs w en77 (ha.keep0 I.keeps).rs (its_r_at _ _)) (fun m9 _ => ?_)))
    refine hdn (al1 6 rfl ((callr (X := OV) (r := DR b4 b3 o3 ((([] ++ goneL eqd (fun a => a) (portsM l) (fun x => chPort 1 x) k.ps) ++ goneL SMeterConf.eqb (fun a => a) (firstN SMeterConf.eqb (fun a => a) l.ms l.ms.length) (fun x => chMeter 5 x) k.ms) ++ goneL SMirrorConf.eqb (fun a => a) (firstN SMirrorConf.eqb (fun a => a) l.xs l.xs.length) (fun x => chMirror 7 x) k.xs)) (r' := fun o2 => DR b4 b3 o2 (((([] ++ goneL eqd (fun a => a) (portsM l) (fun x => chPort 1 x) k.ps) ++ goneL SMeterConf.eqb (fun a => a) (firstN SMeterConf.eqb (fun a => a) l.ms l.ms.length) (fun x => chMeter 5 x) k.ms) ++ goneL SMirrorConf.eqb (fun a => a) (firstN SMirrorConf.eqb (fun a => a) l.xs l.xs.length) (fun x => chMirror 7 x) k.xs) ++ goneL SRoute.eqb (fun a => a) (firstN SRoute.eqb (fun a => a) l.rs l.rs.length) (fun x => chRoute 3 x) k.rs)) (fun _ => True) (fun _ => .tuple #[]) (fun _ => by repeat first | exact Upd.head | apply Upd.tail | apply Upd.right) (by repeat first | exact mH | apply mT | apply mA) en75 (.cons (.t rfl) (.cons (.t rfl) (.cons .f (.cons (.t rfl) .nil)))) (fun w I => gone_52_52 77 78 [.pointer (some ⟨b4, 0, none⟩)] (fun a => a) (fun x => chRoute 3 x) m9 (firstN SRoute.eqb (fun a => a) l.rs l.rs.length) (DR b4 b3) o3 _ _ k.rs w en77 en78 (am w I) (fun w1 k1 => hb.rs.keep0 (I.but (by repeat first | exact Rem.head | apply Rem.tail) k1).keeps) (fun w1 k1 => by have I1 := I.but (by repeat first | exact Rem.head | apply Rem.tail) k1; exact mapAt_own (by repeat first | exact mH | apply mT | apply mA) w1 I1) (its_r_at _ _) (tell5_at b4 b3) (by simp only [List.length_append, List.length_nil]; have g1 := goneL_len eqd (fun a => a) (portsM l) (fun x => chPort 1 x) k.ps; have g2 := goneL_len SMeterConf.eqb (fun a => a) (firstN SMeterConf.eqb (fun a => a) l.ms l.ms.length) (fun x => chMeter 5 x) k.ms; have g3 := goneL_len SMirrorConf.eqb (fun a => a) (firstN SMirrorConf.eqb (fun a => a) l.xs l.xs.length) (fun x => chMirror 7 x) k.xs; omega)) (fun o4 _ => ?_))))
    refine hdn (ovr (pN (cut (X := OV × OV) (fun x : OV × OV => True) (fun x : OV × OV => [(2, true, .pointer (some ⟨b1, 0, none⟩)), (3, true, .pointer (some ⟨b2, 0, none⟩)), (6, true, .pointer (some ⟨b3, 0, none⟩)), (7, true, .pointer (some ⟨b4, 0, none⟩)), (8, true, .pointer (some ⟨p8, 0, none⟩)), (9, true, .pointer (some ⟨p9, 0, none⟩))]) (fun x : OV × OV => [OR b3 x.1 ((((([] ++ goneL eqd (fun a => a) (portsM l) (fun x => chPort 1 x) k.ps) ++ goneL SMeterConf.eqb (fun a => a) (firstN SMeterConf.eqb (fun a => a) l.ms l.ms.length) (fun x => chMeter 5 x) k.ms) ++ goneL SMirrorConf.eqb (fun a => a) (firstN SMirrorConf.eqb (fun a => a) l.xs l.xs.length) (fun x => chMirror 7 x) k.xs) ++ goneL SRoute.eqb (fun a => a) (firstN SRoute.eqb (fun a => a) l.rs l.rs.length) (fun x => chRoute 3 x) k.rs) ++ (if l.us = k.us then [] else [chRules x.2])), Var b4 (ovE nilFn) (clo 63 [.pointer (some ⟨b3, 0, none⟩)]) 113, OwnS x.2.v eRule (if l.us = k.us then [] else k.us) 76, Var p8 eConfKnown ka.k 84, Var p9 eConfKnown kb.k 84, KnR ka l, KnR kb k, Var b2 eConf b 28, Var b1 eConf a 28]) ?_ (fun x hx => ?_))))
    · refine sg (co (fA 2 (.t rfl)) ?_)
      refine co (Ev.ldx a.rules ty24 (.t rfl) SConf.l_rules) ?_
      refine co (fA 2 (.t rfl)) ?_
      refine co (Ev.ldx b.rules ty24 (.t rfl) SConf.l_rules) ?_
      refine cons (callv en54 (.cons (.t rfl) (.cons (.t rfl) .nil)) (fun w I => equal_76 _ _ _ _ w (ha.keep0 I.keeps).us (hb.keep0 I.keeps).us) ?_)
      refine co (Ev.not (.t rfl)) ?_
      refine nP ?_
      first | refine condD rfl (fun h1 => ?_) (fun h1 => ?_) | refine cond rfl (fun h1 => ?_) (fun h1 => ?_)
      · try simp only [nb] at h1
        refine sepOut (by repeat first | exact Rem.head | apply Rem.tail) ?_
        refine drawR (.tail .head) (by kernel_rfl) ?_
        refine tk 0 rfl (Ev.ldv ty113 (.t rfl) (Lens.id _)) ?_
        refine tk 1 rfl (fA 2 (.t rfl)) ?_
        refine tk 2 rfl (Ev.ldx b.rules ty24 (.t rfl) SConf.l_rules) ?_
        refine al1 3 rfl ((callo en50 (.cons (.t rfl) .nil) (fun w I => clone_76 _ _ w (hb.keep0 I.keeps).us (by omega)) (fun rvx => ?_)))
        refine hdn (tk 4 rfl (Ev.buildS (fs := _) (places := [(0, 1), (1, 1), (2, 19), (21, 4), (25, 3), (28, 1), (29, 1)]) z61 rfl Tryz.underlying61 (by kernel_rfl) (.cons (.c (v := I 9) rfl) (.cons (.t rfl) .nil)) (Fills.cons SChange.l_kind rfl (Fills.cons SChange.l_rules rfl Fills.nil))) ?_)
        refine al1 5 rfl ((callcr (X := OV) (r := OR b3 o4 (((([] ++ goneL eqd (fun a => a) (portsM l) (fun x => chPort 1 x) k.ps) ++ goneL SMeterConf.eqb (fun a => a) (firstN SMeterConf.eqb (fun a => a) l.ms l.ms.length) (fun x => chMeter 5 x) k.ms) ++ goneL SMirrorConf.eqb (fun a => a) (firstN SMirrorConf.eqb (fun a => a) l.xs l.xs.length) (fun x => chMirror 7 x) k.xs) ++ goneL SRoute.eqb (fun a => a) (firstN SRoute.eqb (fun a => a) l.rs l.rs.length) (fun x => chRoute 3 x) k.rs)) (r' := fun o2 => OR b3 o2 ((((([] ++ goneL eqd (fun a => a) (portsM l) (fun x => chPort 1 x) k.ps) ++ goneL SMeterConf.eqb (fun a => a) (firstN SMeterConf.eqb (fun a => a) l.ms l.ms.length) (fun x => chMeter 5 x) k.ms) ++ goneL SMirrorConf.eqb (fun a => a) (firstN SMirrorConf.eqb (fun a => a) l.xs l.xs.length) (fun x => chMirror 7 x) k.xs) ++ goneL SRoute.eqb (fun a => a) (firstN SRoute.eqb (fun a => a) l.rs l.rs.length) (fun x => chRoute 3 x) k.rs) ++ [chRules rvx])) (fun _ => True) (fun _ => .tuple #[]) (fun _ => by repeat first | exact Upd.head | apply Upd.tail | apply Upd.right) (.t rfl) en63 (.cons (.t rfl) .nil) (fun w I => put_ok (chRules rvx) b3 o4 _ w (am w I) (by simp only [List.length_append, List.length_nil]; have g1 := goneL_len eqd (fun a => a) (portsM l) (fun x => chPort 1 x) k.ps; have g2 := goneL_len SMeterConf.eqb (fun a => a) (firstN SMeterConf.eqb (fun a => a) l.ms l.ms.length) (fun x => chMeter 5 x) k.ms; have g3 := goneL_len SMirrorConf.eqb (fun a => a) (firstN SMirrorConf.eqb (fun a => a) l.xs l.xs.length) (fun x => chMirror 7 x) k.xs; have g4 := goneL_len SRoute.eqb (fun a => a) (firstN SRoute.eqb (fun a => a) l.rs l.rs.length) (fun x => chRoute 3 x) k.rs; omega)) (fun o5 _ => ?_)))
        refine hdn (ovr (pN (mtP (X := OV × OV) (_, rvx) trivial (hL := (by (first | rw [if_pos h1, if_pos h1, List.append_nil] | rw [if_neg h1, if_neg h1]); repeat first | exact SubP.nil | refine SubP.cons (by repeat first | exact Rem.head | apply Rem.tail) ?_)))))
      · try simp only [nb] at h1
        refine sepOut (by repeat first | exact Rem.head | apply Rem.tail) ?_
        refine takeNil eRule 76 ?_
        refine skip (pN (mtP (X := OV × OV) (_, nilSl) trivial (hL := (by (first | rw [if_pos h1, if_pos h1, List.append_nil] | rw [if_neg h1, if_neg h1]); repeat first | exact SubP.nil | refine SubP.cons (by repeat first | exact Rem.head | apply Rem.tail) ?_))))
    obtain ⟨q1, rv⟩ := x
    show Sat _ _ [(2, true, .pointer (some ⟨b1, 0, none⟩)), (3, true, .pointer (some ⟨b2, 0, none⟩)), (6, true, .pointer (some ⟨b3, 0, none⟩)), (7, true, .pointer (some ⟨b4, 0, none⟩)), (8, true, .pointer (some ⟨p8, 0, none⟩)), (9, true, .pointer (some ⟨p9, 0, none⟩))] [OR b3 q1 ((((([] ++ goneL eqd (fun a => a) (portsM l) (fun x => chPort 1 x) k.ps) ++ goneL SMeterConf.eqb (fun a => a) (firstN SMeterConf.eqb (fun a => a) l.ms l.ms.length) (fun x => chMeter 5 x) k.ms) ++ goneL SMirrorConf.eqb (fun a => a) (firstN SMirrorConf.eqb (fun a => a) l.xs l.xs.length) (fun x => chMirror 7 x) k.xs) ++ goneL SRoute.eqb (fun a => a) (firstN SRoute.eqb (fun a => a) l.rs l.rs.length) (fun x => chRoute 3 x) k.rs) ++ (if l.us = k.us then [] else [chRules rv])), Var b4 (ovE nilFn) (clo 63 [.pointer (some ⟨b3, 0, none⟩)]) 113, OwnS rv.v eRule (if l.us = k.us then [] else k.us) 76, Var p8 eConfKnown ka.k 84, Var p9 eConfKnown kb.k 84, KnR ka l, KnR kb k, Var b2 eConf b 28, Var b1 eConf a 28]
    refine cut (X := OV) (fun x : OV => True) (fun x : OV => [(2, true, .pointer (some ⟨b1, 0, none⟩)), (3, true, .pointer (some ⟨b2, 0, none⟩)), (6, true, .pointer (some ⟨b3, 0, none⟩)), (7, true, .pointer (some ⟨b4, 0, none⟩)), (8, true, .pointer (some ⟨p8, 0, none⟩)), (9, true, .pointer (some ⟨p9, 0, none⟩))]) (fun x : OV => [OR b3 x (((((([] ++ goneL eqd (fun a => a) (portsM l) (fun x => chPort 1 x) k.ps) ++ goneL SMeterConf.eqb (fun a => a) (firstN SMeterConf.eqb (fun a => a) l.ms l.ms.length) (fun x => chMeter 5 x) k.ms) ++ goneL SMirrorConf.eqb (fun a => a) (firstN SMirrorConf.eqb (fun a => a) l.xs l.xs.length) (fun x => chMirror 7 x) k.xs) ++ goneL SRoute.eqb (fun a => a) (firstN SRoute.eqb (fun a => a) l.rs l.rs.length) (fun x => chRoute 3 x) k.rs) ++ (if l.us = k.us then [] else [chRules rv])) ++ (if a.default = b.default then [] else [chDefault b.default])), Var b4 (ovE nilFn) (clo 63 [.pointer (some ⟨b3, 0, none⟩)]) 113, OwnS rv.v eRule (if l.us = k.us then [] else k.us) 76, Var p8 eConfKnown ka.k 84, Var p9 eConfKnown kb.k 84, KnR ka l, KnR kb k, Var b2 eConf b 28, Var b1 eConf a 28]) ?_ (fun x hx => ?_)
    · refine sg (co (fA 5 (.t rfl)) ?_)
      refine co (Ev.ldx a.default ty3 (.t rfl) SConf.l_default) ?_
      refine co (fA 5 (.t rfl)) ?_
      refine co (Ev.ldx b.default ty3 (.t rfl) SConf.l_default) ?_
      refine co (Ev.neq_i (.t rfl) (.t rfl)) ?_
      refine nP ?_
      first | refine condD rfl (fun h2 => ?_) (fun h2 => ?_) | refine cond rfl (fun h2 => ?_) (fun h2 => ?_)
      · try simp only [nb] at h2
        refine region (co (Ev.ldv ty113 (.t rfl) (Lens.id _)) ?_)
        refine co (fA 5 (.t rfl)) ?_
        refine co (Ev.ldx b.default ty3 (.t rfl) SConf.l_default) ?_
        refine co (Ev.buildS (fs := _) (places := [(0, 1), (1, 1), (2, 19), (21, 4), (25, 3), (28, 1), (29, 1)]) z61 rfl Tryz.underlying61 (by kernel_rfl) (.cons (.c (v := I 10) rfl) (.cons (.t rfl) .nil)) (Fills.cons SChange.l_kind rfl (Fills.cons SChange.l_default rfl Fills.nil))) ?_
        refine cons (callcr (X := OV) (r := OR b3 q1 ((((([] ++ goneL eqd (fun a => a) (portsM l) (fun x => chPort 1 x) k.ps) ++ goneL SMeterConf.eqb (fun a => a) (firstN SMeterConf.eqb (fun a => a) l.ms l.ms.length) (fun x => chMeter 5 x) k.ms) ++ goneL SMirrorConf.eqb (fun a => a) (firstN SMirrorConf.eqb (fun a => a) l.xs l.xs.length) (fun x => chMirror 7 x) k.xs) ++ goneL SRoute.eqb (fun a => a) (firstN SRoute.eqb (fun a => a) l.rs l.rs.length) (fun x => chRoute 3 x) k.rs) ++ (if l.us = k.us then [] else [chRules rv]))) (r' := fun o2 => OR b3 o2 (((((([] ++ goneL eqd (fun a => a) (portsM l) (fun x => chPort 1 x) k.ps) ++ goneL SMeterConf.eqb (fun a => a) (firstN SMeterConf.eqb (fun a => a) l.ms l.ms.length) (fun x => chMeter 5 x) k.ms) ++ goneL SMirrorConf.eqb (fun a => a) (firstN SMirrorConf.eqb (fun a => a) l.xs l.xs.length) (fun x => chMirror 7 x) k.xs) ++ goneL SRoute.eqb (fun a => a) (firstN SRoute.eqb (fun a => a) l.rs l.rs.length) (fun x => chRoute 3 x) k.rs) ++ (if l.us = k.us then [] else [chRules rv])) ++ [chDefault b.default])) (fun _ => True) (fun _ => .tuple #[]) (fun _ => by repeat first | exact Upd.head | apply Upd.tail | apply Upd.right) (.t rfl) en63 (.cons (.t rfl) .nil) (fun w I => put_ok (chDefault b.default) b3 q1 _ w (am w I) (by simp only [List.length_append, List.length_nil]; have g1 := goneL_len eqd (fun a => a) (portsM l) (fun x => chPort 1 x) k.ps; have g2 := goneL_len SMeterConf.eqb (fun a => a) (firstN SMeterConf.eqb (fun a => a) l.ms l.ms.length) (fun x => chMeter 5 x) k.ms; have g3 := goneL_len SMirrorConf.eqb (fun a => a) (firstN SMirrorConf.eqb (fun a => a) l.xs l.xs.length) (fun x => chMirror 7 x) k.xs; have g4 := goneL_len SRoute.eqb (fun a => a) (firstN SRoute.eqb (fun a => a) l.rs l.rs.length) (fun x => chRoute 3 x) k.rs; have g5 := ite_len (p := l.us = k.us) (chRules rv); omega)) (fun o6 _ => ?_))
        refine nP (mtP (X := OV) (_) trivial (hL := (by (first | rw [if_pos h2, List.append_nil] | rw [if_neg h2]); repeat first | exact SubP.nil | refine SubP.cons (by repeat first | exact Rem.head | apply Rem.tail) ?_)))
      · try simp only [nb] at h2
        refine skip (pN (mtP (X := OV) (_) trivial (hL := (by (first | rw [if_pos h2, List.append_nil] | rw [if_neg h2]); repeat first | exact SubP.nil | refine SubP.cons (by repeat first | exact Rem.head | apply Rem.tail) ?_))))
    obtain ⟨q2, rfl⟩ : ∃ y, y = x := ⟨x, rfl⟩
    show Sat _ _ [(2, true, .pointer (some ⟨b1, 0, none⟩)), (3, true, .pointer (some ⟨b2, 0, none⟩)), (6, true, .pointer (some ⟨b3, 0, none⟩)), (7, true, .pointer (some ⟨b4, 0, none⟩)), (8, true, .pointer (some ⟨p8, 0, none⟩)), (9, true, .pointer (some ⟨p9, 0, none⟩))] [OR b3 q2 (((((([] ++ goneL eqd (fun a => a) (portsM l) (fun x => chPort 1 x) k.ps) ++ goneL SMeterConf.eqb (fun a => a) (firstN SMeterConf.eqb (fun a => a) l.ms l.ms.length) (fun x => chMeter 5 x) k.ms) ++ goneL SMirrorConf.eqb (fun a => a) (firstN SMirrorConf.eqb (fun a => a) l.xs l.xs.length) (fun x => chMirror 7 x) k.xs) ++ goneL SRoute.eqb (fun a => a) (firstN SRoute.eqb (fun a => a) l.rs l.rs.length) (fun x => chRoute 3 x) k.rs) ++ (if l.us = k.us then [] else [chRules rv])) ++ (if a.default = b.default then [] else [chDefault b.default])), Var b4 (ovE nilFn) (clo 63 [.pointer (some ⟨b3, 0, none⟩)]) 113, OwnS rv.v eRule (if l.us = k.us then [] else k.us) 76, Var p8 eConfKnown ka.k 84, Var p9 eConfKnown kb.k 84, KnR ka l, KnR kb k, Var b2 eConf b 28, Var b1 eConf a 28]
    refine seq (sepIn (r := Var b4 (ovE nilFn) (clo 63 [.pointer (some ⟨b3, 0, none⟩)]) 113) (s := OR b3 q2 (((((([] ++ goneL eqd (fun a => a) (portsM l) (fun x => chPort 1 x) k.ps) ++ goneL SMeterConf.eqb (fun a => a) (firstN SMeterConf.eqb (fun a => a) l.ms l.ms.length) (fun x => chMeter 5 x) k.ms) ++ goneL SMirrorConf.eqb (fun a => a) (firstN SMirrorConf.eqb (fun a => a) l.xs l.xs.length) (fun x => chMirror 7 x) k.xs) ++ goneL SRoute.eqb (fun a => a) (firstN SRoute.eqb (fun a => a) l.rs l.rs.length) (fun x => chRoute 3 x) k.rs) ++ (if l.us = k.us then [] else [chRules rv])) ++ (if a.default = b.default then [] else [chDefault b.default]))) (Rem.tail Rem.head) Rem.head ?_)
    refine region (co (fA 1 (.t rfl)) ?_)
    refine co (Ev.ldx a.routes ty23 (.t rfl) SConf.l_routes) ?_
    refine co (fA 1 (.t rfl)) ?_
    refine co (Ev.ldv ty81 (.t rfl) SConfKnown.l_routes) ?_
    refine co (Ev.makeFunc (f := 81) (.cons (.t rfl) .nil)) ?_
    refine cons (callr (X := OV) (r := DR b4 b3 q2 (((((([] ++ goneL eqd (fun a => a) (portsM l) (fun x => chPort 1 x) k.ps) ++ goneL SMeterConf.eqb (fun a => a) (firstN SMeterConf.eqb (fun a => a) l.ms l.ms.length) (fun x => chMeter 5 x) k.ms) ++ goneL SMirrorConf.eqb (fun a => a) (firstN SMirrorConf.eqb (fun a => a) l.xs l.xs.length) (fun x => chMirror 7 x) k.xs) ++ goneL SRoute.eqb (fun a => a) (firstN SRoute.eqb (fun a => a) l.rs l.rs.length) (fun x => chRoute 3 x) k.rs) ++ (if l.us = k.us then [] else [chRules rv])) ++ (if a.default = b.default then [] else [chDefault b.default]))) (r' := fun o2 => DR b4 b3 o2 ((((((([] ++ goneL eqd (fun a => a) (portsM l) (fun x => chPort 1 x) k.ps) ++ goneL SMeterConf.eqb (fun a => a) (firstN SMeterConf.eqb (fun a => a) l.ms l.ms.length) (fun x => chMeter 5 x) k.ms) ++ goneL SMirrorConf.eqb (fun a => a) (firstN SMirrorConf.eqb (fun a => a) l.xs l.xs.length) (fun x => chMirror 7 x) k.xs) ++ goneL SRoute.eqb (fun a => a) (firstN SRoute.eqb (fun a => a) l.rs l.rs.length) (fun x => chRoute 3 x) k.rs) ++ (if l.us = k.us then [] else [chRules rv])) ++ (if a.default = b.default then [] else [chDefault b.default])) ++ goneL SPrefix.eqb (fun a => a.to_) (routesM k) (fun x => chRoute 4 (onlyR x)) l.rs)) (fun _ => True) (fun _ => .tuple #[]) (fun _ => by repeat first | exact Upd.head | apply Upd.tail | apply Upd.right) (by repeat first | exact mH | apply mT | apply mA) en79 (.cons (.t rfl) (.cons (.t rfl) (.cons .f (.cons (.t rfl) .nil)))) (fun w I => gone_50_52 80 81 [.pointer (some ⟨b4, 0, none⟩)] (fun a => a.to_) (fun x => chRoute 4 (onlyR x)) kb.b2 (routesM k) (DR b4 b3) q2 _ _ l.rs w en80 en81 (am w I) (fun w1 k1 => ha.rs.keep0 (I.but (by repeat first | exact Rem.head | apply Rem.tail) k1).keeps) (fun w1 k1 => by have I1 := I.but (by repeat first | exact Rem.head | apply Rem.tail) k1; exact (known_of (x := kb) (l := k) (by repeat first | exact mH | apply mT | apply mA) w1 I1).rs) (key6_at _ _) (tell7_at b4 b3) (by simp only [List.length_append, List.length_nil]; have g1 := goneL_len eqd (fun a => a) (portsM l) (fun x => chPort 1 x) k.ps; have g2 := goneL_len SMeterConf.eqb (fun a => a) (firstN SMeterConf.eqb (fun a => a) l.ms l.ms.length) (fun x => chMeter 5 x) k.ms; have g3 := goneL_len SMirrorConf.eqb (fun a => a) (firstN SMirrorConf.eqb (fun a => a) l.xs l.xs.length) (fun x => chMirror 7 x) k.xs; have g4 := goneL_len SRoute.eqb (fun a => a) (firstN SRoute.eqb (fun a => a) l.rs l.rs.length) (fun x => chRoute 3 x) k.rs; have g5 := ite_len (p := l.us = k.us) (chRules rv); have g6 := ite_len (p := a.default = b.default) (chDefault b.default); omega)) (fun o7 _ => ?_))
    refine nP (sg (co (fA 3 (.t rfl)) ?_))
    refine co (Ev.ldx a.meters ty25 (.t rfl) SConf.l_meters) ?_
    refine co (fA 3 (.t rfl)) ?_
    refine co (Ev.ldv ty82 (.t rfl) SConfKnown.l_meters) ?_
    refine co (Ev.makeFunc (f := 84) (.cons (.t rfl) .nil)) ?_
    refine cons (callr (X := OV) (r := DR b4 b3 o7 ((((((([] ++ goneL eqd (fun a => a) (portsM l) (fun x => chPort 1 x) k.ps) ++ goneL SMeterConf.eqb (fun a => a) (firstN SMeterConf.eqb (fun a => a) l.ms l.ms.length) (fun x => chMeter 5 x) k.ms) ++ goneL SMirrorConf.eqb (fun a => a) (firstN SMirrorConf.eqb (fun a => a) l.xs l.xs.length) (fun x => chMirror 7 x) k.xs) ++ goneL SRoute.eqb (fun a => a) (firstN SRoute.eqb (fun a => a) l.rs l.rs.length) (fun x => chRoute 3 x) k.rs) ++ (if l.us = k.us then [] else [chRules rv])) ++ (if a.default = b.default then [] else [chDefault b.default])) ++ goneL SPrefix.eqb (fun a => a.to_) (routesM k) (fun x => chRoute 4 (onlyR x)) l.rs)) (r' := fun o2 => DR b4 b3 o2 (((((((([] ++ goneL eqd (fun a => a) (portsM l) (fun x => chPort 1 x) k.ps) ++ goneL SMeterConf.eqb (fun a => a) (firstN SMeterConf.eqb (fun a => a) l.ms l.ms.length) (fun x => chMeter 5 x) k.ms) ++ goneL SMirrorConf.eqb (fun a => a) (firstN SMirrorConf.eqb (fun a => a) l.xs l.xs.length) (fun x => chMirror 7 x) k.xs) ++ goneL SRoute.eqb (fun a => a) (firstN SRoute.eqb (fun a => a) l.rs l.rs.length) (fun x => chRoute 3 x) k.rs) ++ (if l.us = k.us then [] else [chRules rv])) ++ (if a.default = b.default then [] else [chDefault b.default])) ++ goneL SPrefix.eqb (fun a => a.to_) (routesM k) (fun x => chRoute 4 (onlyR x)) l.rs) ++ goneL eqs (fun a => a.name) (metersM k) (fun x => chMeter 6 (onlyM x)) l.ms)) (fun _ => True) (fun _ => .tuple #[]) (fun _ => by repeat first | exact Upd.head | apply Upd.tail | apply Upd.right) (by repeat first | exact mH | apply mT | apply mA) en82 (.cons (.t rfl) (.cons (.t rfl) (.cons .f (.cons (.t rfl) .nil)))) (fun w I => gone_9_57 83 84 [.pointer (some ⟨b4, 0, none⟩)] (fun a => a.name) (fun x => chMeter 6 (onlyM x)) kb.b4 (metersM k) (DR b4 b3) o7 _ _ l.ms w en83 en84 (am w I) (fun w1 k1 => ha.ms.keep0 (I.but (by repeat first | exact Rem.head | apply Rem.tail) k1).keeps) (fun w1 k1 => by have I1 := I.but (by repeat first | exact Rem.head | apply Rem.tail) k1; exact (known_of (x := kb) (l := k) (by repeat first | exact mH | apply mT | apply mA) w1 I1).ms) (key8_at _ _) (tell9_at b4 b3) (by simp only [List.length_append, List.length_nil]; have g1 := goneL_len eqd (fun a => a) (portsM l) (fun x => chPort 1 x) k.ps; have g2 := goneL_len SMeterConf.eqb (fun a => a) (firstN SMeterConf.eqb (fun a => a) l.ms l.ms.length) (fun x => chMeter 5 x) k.ms; have g3 := goneL_len SMirrorConf.eqb (fun a => a) (firstN SMirrorConf.eqb (fun a => a) l.xs l.xs.length) (fun x => chMirror 7 x) k.xs; have g4 := goneL_len SRoute.eqb (fun a => a) (firstN SRoute.eqb (fun a => a) l.rs l.rs.length) (fun x => chRoute 3 x) k.rs; have g5 := ite_len (p := l.us = k.us) (chRules rv); have g6 := ite_len (p := a.default = b.default) (chDefault b.default); have g7 := goneL_len SPrefix.eqb (fun a => a.to_) (routesM k) (fun x => chRoute 4 (onlyR x)) l.rs; omega)) (fun o8 _ => ?_))
    refine nP (sg (co (fA 4 (.t rfl)) ?_))
    refine co (Ev.ldx a.mirrors ty26 (.t rfl) SConf.l_mirrors) ?_
    refine co (fA 4 (.t rfl)) ?_
    refine co (Ev.ldv ty82 (.t rfl) SConfKnown.l_mirrors) ?_
    refine co (Ev.makeFunc (f := 87) (.cons (.t rfl) .nil)) ?_
    refine cons (callr (X := OV) (r := DR b4 b3 o8 (((((((([] ++ goneL eqd (fun a => a) (portsM l) (fun x => chPort 1 x) k.ps) ++ goneL SMeterConf.eqb (fun a => a) (firstN SMeterConf.eqb (fun a => a) l.ms l.ms.length) (fun x => chMeter 5 x) k.ms) ++ goneL SMirrorConf.eqb (fun a => a) (firstN SMirrorConf.eqb (fun a => a) l.xs l.xs.length) (fun x => chMirror 7 x) k.xs) ++ goneL SRoute.eqb (fun a => a) (firstN SRoute.eqb (fun a => a) l.rs l.rs.length) (fun x => chRoute 3 x) k.rs) ++ (if l.us = k.us then [] else [chRules rv])) ++ (if a.default = b.default then [] else [chDefault b.default])) ++ goneL SPrefix.eqb (fun a => a.to_) (routesM k) (fun x => chRoute 4 (onlyR x)) l.rs) ++ goneL eqs (fun a => a.name) (metersM k) (fun x => chMeter 6 (onlyM x)) l.ms)) (r' := fun o2 => DR b4 b3 o2 ((((((((([] ++ goneL eqd (fun a => a) (portsM l) (fun x => chPort 1 x) k.ps) ++ goneL SMeterConf.eqb (fun a => a) (firstN SMeterConf.eqb (fun a => a) l.ms l.ms.length) (fun x => chMeter 5 x) k.ms) ++ goneL SMirrorConf.eqb (fun a => a) (firstN SMirrorConf.eqb (fun a => a) l.xs l.xs.length) (fun x => chMirror 7 x) k.xs) ++ goneL SRoute.eqb (fun a => a) (firstN SRoute.eqb (fun a => a) l.rs l.rs.length) (fun x => chRoute 3 x) k.rs) ++ (if l.us = k.us then [] else [chRules rv])) ++ (if a.default = b.default then [] else [chDefault b.default])) ++ goneL SPrefix.eqb (fun a => a.to_) (routesM k) (fun x => chRoute 4 (onlyR x)) l.rs) ++ goneL eqs (fun a => a.name) (metersM k) (fun x => chMeter 6 (onlyM x)) l.ms) ++ goneL eqs (fun a => a.name) (mirrorsM k) (fun x => chMirror 8 (onlyX x)) l.xs)) (fun _ => True) (fun _ => .tuple #[]) (fun _ => by repeat first | exact Upd.head | apply Upd.tail | apply Upd.right) (by repeat first | exact mH | apply mT | apply mA) en85 (.cons (.t rfl) (.cons (.t rfl) (.cons .f (.cons (.t rfl) .nil)))) (fun w I => gone_9_59 86 87 [.pointer (some ⟨b4, 0, none⟩)] (fun a => a.name) (fun x => chMirror 8 (onlyX x)) kb.b5 (mirrorsM k) (DR b4 b3) o8 _ _ l.xs w en86 en87 (am w I) (fun w1 k1 => ha.xs.keep0 (I.but (by repeat first | exact Rem.head | apply Rem.tail) k1).keeps) (fun w1 k1 => by have I1 := I.but (by repeat first | exact Rem.head | apply Rem.tail) k1; exact (known_of (x := kb) (l := k) (by repeat first | exact mH | apply mT | apply mA) w1 I1).xs) (key10_at _ _) (tell11_at b4 b3) (by simp only [List.length_append, List.length_nil]; have g1 := goneL_len eqd (fun a => a) (portsM l) (fun x => chPort 1 x) k.ps; have g2 := goneL_len SMeterConf.eqb (fun a => a) (firstN SMeterConf.eqb (fun a => a) l.ms l.ms.length) (fun x => chMeter 5 x) k.ms; have g3 := goneL_len SMirrorConf.eqb (fun a => a) (firstN SMirrorConf.eqb (fun a => a) l.xs l.xs.length) (fun x => chMirror 7 x) k.xs; have g4 := goneL_len SRoute.eqb (fun a => a) (firstN SRoute.eqb (fun a => a) l.rs l.rs.length) (fun x => chRoute 3 x) k.rs; have g5 := ite_len (p := l.us = k.us) (chRules rv); have g6 := ite_len (p := a.default = b.default) (chDefault b.default); have g7 := goneL_len SPrefix.eqb (fun a => a.to_) (routesM k) (fun x => chRoute 4 (onlyR x)) l.rs; have g8 := goneL_len eqs (fun a => a.name) (metersM k) (fun x => chMeter 6 (onlyM x)) l.ms; omega)) (fun o9 _ => ?_))
    refine nP (sg (co (fA 0 (.t rfl)) ?_))
    refine co (Ev.ldx a.ports ty22 (.t rfl) SConf.l_ports) ?_
    refine co (fA 0 (.t rfl)) ?_
    refine co (Ev.ldv ty80 (.t rfl) SConfKnown.l_ports) ?_
    refine co (Ev.makeFunc (f := 88) (.cons (.t rfl) .nil)) ?_
    refine cons (callr (X := OV) (r := DR b4 b3 o9 ((((((((([] ++ goneL eqd (fun a => a) (portsM l) (fun x => chPort 1 x) k.ps) ++ goneL SMeterConf.eqb (fun a => a) (firstN SMeterConf.eqb (fun a => a) l.ms l.ms.length) (fun x => chMeter 5 x) k.ms) ++ goneL SMirrorConf.eqb (fun a => a) (firstN SMirrorConf.eqb (fun a => a) l.xs l.xs.length) (fun x => chMirror 7 x) k.xs) ++ goneL SRoute.eqb (fun a => a) (firstN SRoute.eqb (fun a => a) l.rs l.rs.length) (fun x => chRoute 3 x) k.rs) ++ (if l.us = k.us then [] else [chRules rv])) ++ (if a.default = b.default then [] else [chDefault b.default])) ++ goneL SPrefix.eqb (fun a => a.to_) (routesM k) (fun x => chRoute 4 (onlyR x)) l.rs) ++ goneL eqs (fun a => a.name) (metersM k) (fun x => chMeter 6 (onlyM x)) l.ms) ++ goneL eqs (fun a => a.name) (mirrorsM k) (fun x => chMirror 8 (onlyX x)) l.xs)) (r' := fun o2 => DR b4 b3 o2 (((((((((([] ++ goneL eqd (fun a => a) (portsM l) (fun x => chPort 1 x) k.ps) ++ goneL SMeterConf.eqb (fun a => a) (firstN SMeterConf.eqb (fun a => a) l.ms l.ms.length) (fun x => chMeter 5 x) k.ms) ++ goneL SMirrorConf.eqb (fun a => a) (firstN SMirrorConf.eqb (fun a => a) l.xs l.xs.length) (fun x => chMirror 7 x) k.xs) ++ goneL SRoute.eqb (fun a => a) (firstN SRoute.eqb (fun a => a) l.rs l.rs.length) (fun x => chRoute 3 x) k.rs) ++ (if l.us = k.us then [] else [chRules rv])) ++ (if a.default = b.default then [] else [chDefault b.default])) ++ goneL SPrefix.eqb (fun a => a.to_) (routesM k) (fun x => chRoute 4 (onlyR x)) l.rs) ++ goneL eqs (fun a => a.name) (metersM k) (fun x => chMeter 6 (onlyM x)) l.ms) ++ goneL eqs (fun a => a.name) (mirrorsM k) (fun x => chMirror 8 (onlyX x)) l.xs) ++ goneL eqd (fun a => a) (portsM k) (fun x => chPort 2 x) l.ps)) (fun _ => True) (fun _ => .tuple #[]) (fun _ => by repeat first | exact Upd.head | apply Upd.tail | apply Upd.right) (by repeat first | exact mH | apply mT | apply mA) en64 (.cons (.t rfl) (.cons (.t rfl) (.cons .f (.cons (.t rfl) .nil)))) (fun w I => gone_3_3 65 88 [.pointer (some ⟨b4, 0, none⟩)] (fun a => a) (fun x => chPort 2 x) kb.b1 (portsM k) (DR b4 b3) o9 _ _ l.ps w en65 en88 (am w I) (fun w1 k1 => ha.ps.keep0 (I.but (by repeat first | exact Rem.head | apply Rem.tail) k1).keeps) (fun w1 k1 => by have I1 := I.but (by repeat first | exact Rem.head | apply Rem.tail) k1; exact (known_of (x := kb) (l := k) (by repeat first | exact mH | apply mT | apply mA) w1 I1).ps) (its_i_at _ _) (tell12_at b4 b3) (by simp only [List.length_append, List.length_nil]; have g1 := goneL_len eqd (fun a => a) (portsM l) (fun x => chPort 1 x) k.ps; have g2 := goneL_len SMeterConf.eqb (fun a => a) (firstN SMeterConf.eqb (fun a => a) l.ms l.ms.length) (fun x => chMeter 5 x) k.ms; have g3 := goneL_len SMirrorConf.eqb (fun a => a) (firstN SMirrorConf.eqb (fun a => a) l.xs l.xs.length) (fun x => chMirror 7 x) k.xs; have g4 := goneL_len SRoute.eqb (fun a => a) (firstN SRoute.eqb (fun a => a) l.rs l.rs.length) (fun x => chRoute 3 x) k.rs; have g5 := ite_len (p := l.us = k.us) (chRules rv); have g6 := ite_len (p := a.default = b.default) (chDefault b.default); have g7 := goneL_len SPrefix.eqb (fun a => a.to_) (routesM k) (fun x => chRoute 4 (onlyR x)) l.rs; have g8 := goneL_len eqs (fun a => a.name) (metersM k) (fun x => chMeter 6 (onlyM x)) l.ms; have g9 := goneL_len eqs (fun a => a.name) (mirrorsM k) (fun x => chMirror 8 (onlyX x)) l.xs; omega)) (fun o10 _ => ?_))
    refine nP (seq (sepOut (r := Var b4 (ovE nilFn) (clo 63 [.pointer (some ⟨b3, 0, none⟩)]) 113) (s := OR b3 o10 (((((((((([] ++ goneL eqd (fun a => a) (portsM l) (fun x => chPort 1 x) k.ps) ++ goneL SMeterConf.eqb (fun a => a) (firstN SMeterConf.eqb (fun a => a) l.ms l.ms.length) (fun x => chMeter 5 x) k.ms) ++ goneL SMirrorConf.eqb (fun a => a) (firstN SMirrorConf.eqb (fun a => a) l.xs l.xs.length) (fun x => chMirror 7 x) k.xs) ++ goneL SRoute.eqb (fun a => a) (firstN SRoute.eqb (fun a => a) l.rs l.rs.length) (fun x => chRoute 3 x) k.rs) ++ (if l.us = k.us then [] else [chRules rv])) ++ (if a.default = b.default then [] else [chDefault b.default])) ++ goneL SPrefix.eqb (fun a => a.to_) (routesM k) (fun x => chRoute 4 (onlyR x)) l.rs) ++ goneL eqs (fun a => a.name) (metersM k) (fun x => chMeter 6 (onlyM x)) l.ms) ++ goneL eqs (fun a => a.name) (mirrorsM k) (fun x => chMirror 8 (onlyX x)) l.xs) ++ goneL eqd (fun a => a) (portsM k) (fun x => chPort 2 x) l.ps)) (by repeat first | exact Rem.head | apply Rem.tail) ?_))
    refine sepOut (Rem.tail Rem.head) ?_
    refine region (co (Ev.ldv ty41 (.t rfl) (Lens.id _)) ?_)
    refine asn rfl (co (Ev.assign (.c (v := I 0) rfl)) ?_)
    refine nP (ret (done rfl (.tmp rfl (.tmp rfl .nil)) (fun w I => ?_)))
    exact retNP (o10, rv) trivial (by unfold diffE; rw [hbo]; rfl) (by unfold diffL diffR; rw [hbo, if_pos rfl, if_pos rfl]; exact (by repeat first | exact SubP.nil | refine SubP.cons (by repeat first | exact Rem.head | apply Rem.tail) ?_)) w I
abbrev CR (b : Nat) (x : CB) (l : CL) (d : Int) : Res := Seps (Var b eConf (x.c d) 28) [OwnS x.o1.v iE l.ps 3, OwnS x.o2.v eRoute l.rs 52, OwnS x.o3.v eRule l.us 76, OwnS x.o4.v eMeterConf l.ms 57, OwnS x.o5.v eMirrorConf l.xs 59]
def iP (l : CL) (c : SChange) : Int := idxF (fun y => decide (c.port = y)) l.ps
def iR (l : CL) (c : SChange) : Int := idxF (fun r => SPrefix.eqb r.to_ c.route.to_) l.rs
def iM (l : CL) (c : SChange) : Int := idxF (fun r => decide (r.name = c.meter.name)) l.ms
def iX (l : CL) (c : SChange) : Int := idxF (fun r => decide (r.name = c.mirror.name)) l.xs
def cutI {α : Type} (l : List α) (i : Int) : List α := if i < 0 then l else cutL l i (i + 1)
def addBad (l : CL) (c : SChange) : Bool := decide (0 ≤ iP l c) || decide (c.port < 0) || decide (255 < c.port)
def changeL (l : CL) (c : SChange) (rl : List SRule) : CL :=
  if c.kind = 1 then (if addBad l c = true then l else { l with ps := insL l.ps (lowB l.ps c.port) c.port })
  else if c.kind = 2 then { l with ps := cutI l.ps (iP l c) }
  else if c.kind = 3 then { l with rs := setL l.rs (iR l c) c.route }
  else if c.kind = 4 then { l with rs := cutI l.rs (iR l c) }
  else if c.kind = 5 then { l with ms := setL l.ms (iM l c) c.meter }
  else if c.kind = 6 then { l with ms := cutI l.ms (iM l c) }
  else if c.kind = 7 then { l with xs := setL l.xs (iX l c) c.mirror }
  else if c.kind = 8 then { l with xs := cutI l.xs (iX l c) }
  else if c.kind = 9 then { l with us := rl }
  else l
def changeD (d : Int) (c : SChange) : Int := if c.kind = 10 then c.default else d
def changeB (l : CL) (c : SChange) : Bool :=
  if c.kind = 1 then !addBad l c
  else if c.kind = 2 then decide (¬ iP l c < 0)
  else if c.kind = 3 then true
  else if c.kind = 4 then decide (¬ iR l c < 0)
  else if c.kind = 5 then true
  else if c.kind = 6 then decide (¬ iM l c < 0)
  else if c.kind = 7 then true
  else if c.kind = 8 then decide (¬ iX l c < 0)
  else if c.kind = 9 then true
  else decide (c.kind = 10)
theorem idxF_lt {α : Type} (p : α → Bool) (l : List α) : -1 ≤ idxF p l ∧ (idxF p l < 0 ∨ idxF p l < l.length) := by
  unfold idxF
  cases h : l.findIdx? p with
  | none => simp
  | some i =>
    have := (List.findIdx?_eq_some_iff_getElem.1 h).1
    simp only
    omega
theorem lowB_le (l : List Int) (x : Int) : 0 ≤ lowB l x ∧ lowB l x ≤ l.length := by
  unfold lowB
  have := List.countP_le_length (p := fun y => decide (y < x)) (l := l)
  omega
theorem chg1_ok (c : SChange) (p : Nat) (x : SRoute) (w : World) (hc : PtsTo eChange w p 0 c) : Calls Tryz.prog 130 #[eRoute.val x, .pointer (some ⟨p, 0, none⟩)] w (RetV w (.bool (SPrefix.eqb x.to_ c.route.to_))) := by
  refine en0 10 Tryz.func130 ?_
  refine sg (cons (box (E := eRoute) (.t rfl) (fun b1 => ?_)))
  refine co (Ev.assign (.c (v := .bool false) rfl)) ?_
  refine nP (sg (co (fA 0 (.t rfl)) ?_))
  refine co (Ev.ldx x.to_ ty50 (.t rfl) SRoute.l_to_) ?_
  refine co (fA 2 (.t rfl)) ?_
  refine co (fA 0 (.t rfl)) ?_
  refine co (Ev.load ty50 (.t rfl) (ptsL (fun w I => hc.keep I.keeps) (Lens.comp SChange.l_route SRoute.l_to_))) ?_
  refine co (Ev.eqlS rfl eqok50 rfl (by kernel_rfl) (.t rfl) (.t rfl)) ?_
  refine asn rfl (nP (ret (done rfl (.tmp rfl .nil) (retE ?_))))
  rfl
theorem chg2_ok (c : SChange) (p : Nat) (x : SMeterConf) (w : World) (hc : PtsTo eChange w p 0 c) : Calls Tryz.prog 132 #[eMeterConf.val x, .pointer (some ⟨p, 0, none⟩)] w (RetV w (.bool (decide (x.name = c.meter.name)))) := by
  refine en0 10 Tryz.func132 ?_
  refine sg (cons (box (E := eMeterConf) (.t rfl) (fun b1 => ?_)))
  refine co (Ev.assign (.c (v := .bool false) rfl)) ?_
  refine nP (sg (co (fA 0 (.t rfl)) ?_))
  refine co (Ev.ldx x.name ty9 (.t rfl) SMeterConf.l_name) ?_
  refine co (fA 21 (.t rfl)) ?_
  refine co (fA 0 (.t rfl)) ?_
  refine co (Ev.load ty9 (.t rfl) (ptsL (fun w I => hc.keep I.keeps) (Lens.comp SChange.l_meter SMeterConf.l_name))) ?_
  refine co (Ev.eql_s (.t rfl) (.t rfl)) ?_
  refine asn rfl (nP (ret (done rfl (.tmp rfl .nil) (retE ?_))))
  rfl
theorem chg3_ok (c : SChange) (p : Nat) (x : SMirrorConf) (w : World) (hc : PtsTo eChange w p 0 c) : Calls Tryz.prog 134 #[eMirrorConf.val x, .pointer (some ⟨p, 0, none⟩)] w (RetV w (.bool (decide (x.name = c.mirror.name)))) := by
  refine en0 10 Tryz.func134 ?_
  refine sg (cons (box (E := eMirrorConf) (.t rfl) (fun b1 => ?_)))
  refine co (Ev.assign (.c (v := .bool false) rfl)) ?_
  refine nP (sg (co (fA 0 (.t rfl)) ?_))
  refine co (Ev.ldx x.name ty9 (.t rfl) SMirrorConf.l_name) ?_
  refine co (fA 25 (.t rfl)) ?_
  refine co (fA 0 (.t rfl)) ?_
  refine co (Ev.load ty9 (.t rfl) (ptsL (fun w I => hc.keep I.keeps) (Lens.comp SChange.l_mirror SMirrorConf.l_name))) ?_
  refine co (Ev.eql_s (.t rfl) (.t rfl)) ?_
  refine asn rfl (nP (ret (done rfl (.tmp rfl .nil) (retE ?_))))
  rfl
theorem en130 : Gx.Enters Tryz.prog 130 := Gx.Enters.mk' (by kernel_rfl)
theorem en132 : Gx.Enters Tryz.prog 132 := Gx.Enters.mk' (by kernel_rfl)
theorem en134 : Gx.Enters Tryz.prog 134 := Gx.Enters.mk' (by kernel_rfl)
theorem en128 : Gx.Enters Tryz.prog 128 := Gx.Enters.mk' (by kernel_rfl)
theorem en129 : Gx.Enters Tryz.prog 129 := Gx.Enters.mk' (by kernel_rfl)
theorem en131 : Gx.Enters Tryz.prog 131 := Gx.Enters.mk' (by kernel_rfl)
theorem en133 : Gx.Enters Tryz.prog 133 := Gx.Enters.mk' (by kernel_rfl)
theorem en135 : Gx.Enters Tryz.prog 135 := Gx.Enters.mk' (by kernel_rfl)
theorem en136 : Gx.Enters Tryz.prog 136 := Gx.Enters.mk' (by kernel_rfl)
theorem en137 : Gx.Enters Tryz.prog 137 := Gx.Enters.mk' (by kernel_rfl)
theorem en138 : Gx.Enters Tryz.prog 138 := Gx.Enters.mk' (by kernel_rfl)
theorem en139 : Gx.Enters Tryz.prog 139 := Gx.Enters.mk' (by kernel_rfl)
theorem en140 : Gx.Enters Tryz.prog 140 := Gx.Enters.mk' (by kernel_rfl)
theorem en141 : Gx.Enters Tryz.prog 141 := Gx.Enters.mk' (by kernel_rfl)
theorem en142 : Gx.Enters Tryz.prog 142 := Gx.Enters.mk' (by kernel_rfl)
theorem en143 : Gx.Enters Tryz.prog 143 := Gx.Enters.mk' (by kernel_rfl)
theorem change_ok (b : Nat) (x : CB) (l : CL) (d : Int) (c : SChange) (rl : List SRule) (w : World) (h : At (CR b x l d) w) (hr : ∀ w1, Keeps (CR b x l d).foot w w1 → IsSl eRule w1 c.rules.v rl) (hs : l.ps.Pairwise (· < ·)) (hb : l.ps.length < 1048576 ∧ l.rs.length < 1048576 ∧ l.ms.length < 1048576 ∧ l.xs.length < 1048576) (hrl : rl.length * 152 ≤ 140737488355328) : Calls Tryz.prog 92 #[.pointer (some ⟨b, 0, none⟩), eChange.val c] w (RetR w (CR b x l d) (fun _ : CB => True) (fun _ => .bool (changeB l c)) (fun x2 => CR b x2 (changeL l c rl) (changeD d c))) := by
  refine enter (CR b x l d).foot 185 [CR b x l d] Tryz.func92 rfl rfl (Nat.le_of_ble_eq_true rfl) (start_at h) ?_
  refine sepsOut Rem.head ?_
  refine sg (cons (box (E := eChange) (.t rfl) (fun b1 => ?_)))
  refine co (Ev.assign (.c (v := .bool false) rfl)) ?_
  refine nP (sg (co (Ev.assign (.c (v := .bool true) rfl)) ?_))
  refine nP (seq (draw' (by kernel_rfl) ?_))
  refine tk 0 rfl (Ev.move (.t rfl)) ?_
  refine tk 1 rfl (Ev.nilCheck (.t rfl)) ?_
  refine tk 2 rfl (fA 0 (.t rfl)) ?_
  refine tk 3 rfl (Ev.to (v' := x.o1.v) (Ev.ldv ty22 (.t rfl) SConf.l_ports) (rfl)) ?_
  refine tk 4 rfl (fA 1 (.t rfl)) ?_
  refine tk 5 rfl (Ev.ldv ty3 (.t rfl) SChange.l_port) ?_
  refine al1 6 rfl ((callv en128 (.cons (.t rfl) (.cons (.t rfl) .nil)) (fun w I => index_ok _ l.ps _ w (io w I)) ?_))
  refine hdn (tk 7 rfl (Ev.assign (.t rfl)) ?_)
  refine ovr (pN (sg (mv rfl (co (Ev.nilCheck (.t rfl)) ?_))))
  refine co (fA 1 (.t rfl)) ?_
  refine co (Ev.to (v' := x.o2.v) (Ev.ldv ty23 (.t rfl) SConf.l_routes) (rfl)) ?_
  refine co (Ev.makeFunc (f := 130) (.cons (.t rfl) .nil)) ?_
  refine cons (callv en129 (.cons (.t rfl) (.cons (.t rfl) .nil)) (fun w I => indexf_52 130 [.pointer (some ⟨b1, 0, none⟩)] (fun r => SPrefix.eqb r.to_ c.route.to_) _ l.rs w en130 (io w I) (fun z w1 _ k1 => chg1_ok c b1 z w1 (ptsVar (by repeat first | exact mH | apply mT | apply mA) (Lens.id _) w1 (I.grow k1)))) ?_)
  refine asn rfl (nP (sg (mv rfl (co (Ev.nilCheck (.t rfl)) ?_))))
  refine co (fA 3 (.t rfl)) ?_
  refine co (Ev.to (v' := x.o4.v) (Ev.ldv ty25 (.t rfl) SConf.l_meters) (rfl)) ?_
  refine co (Ev.makeFunc (f := 132) (.cons (.t rfl) .nil)) ?_
  refine cons (callv en131 (.cons (.t rfl) (.cons (.t rfl) .nil)) (fun w I => indexf_57 132 [.pointer (some ⟨b1, 0, none⟩)] (fun r => decide (r.name = c.meter.name)) _ l.ms w en132 (io w I) (fun z w1 _ k1 => chg2_ok c b1 z w1 (ptsVar (by repeat first | exact mH | apply mT | apply mA) (Lens.id _) w1 (I.grow k1)))) ?_)
  refine asn rfl (nP (sg (mv rfl (co (Ev.nilCheck (.t rfl)) ?_))))
  refine co (fA 4 (.t rfl)) ?_
  refine co (Ev.to (v' := x.o5.v) (Ev.ldv ty26 (.t rfl) SConf.l_mirrors) (rfl)) ?_
  refine co (Ev.makeFunc (f := 134) (.cons (.t rfl) .nil)) ?_
  refine cons (callv en133 (.cons (.t rfl) (.cons (.t rfl) .nil)) (fun w I => indexf_59 134 [.pointer (some ⟨b1, 0, none⟩)] (fun r => decide (r.name = c.mirror.name)) _ l.xs w en134 (io w I) (fun z w1 _ k1 => chg3_ok c b1 z w1 (ptsVar (by repeat first | exact mH | apply mT | apply mA) (Lens.id _) w1 (I.grow k1)))) ?_)
  refine asn rfl (nP (seq (sg (co (fA 0 (.t rfl)) ?_))))
  refine co (Ev.ldv ty3 (.t rfl) SChange.l_kind) ?_
  refine nP (block (sg (co (Ev.eql_i (.t rfl) (.c (v := I 1) rfl)) ?_)))
  refine asn rfl (nP ?_)
  first | refine condD rfl (fun h0 => ?_) (fun h0 => ?_) | refine cond rfl (fun h0 => ?_) (fun h0 => ?_)
  · have ek : c.kind = 1 := h0
    refine seq (sg (mv rfl (co (Ev.geq_i (.t rfl) (.c (v := I 0) rfl)) ?_)))
    refine mv rfl (cg rfl rfl (fA 1 (.t rfl)) ?_)
    refine cg rfl rfl (Ev.ldv ty3 (.g rfl id) SChange.l_port) ?_
    refine cg rfl rfl (Ev.lss_i (.g rfl id) (.c (v := I 0) rfl)) ?_
    refine co (Ev.pkO (.t rfl) rfl) ?_
    refine mv rfl (cg rfl rfl (fA 1 (.t rfl)) ?_)
    refine cg rfl rfl (Ev.ldv ty3 (.g rfl id) SChange.l_port) ?_
    refine cg rfl rfl (Ev.gtr_i (.g rfl id) (.c (v := I 255) rfl)) ?_
    refine co (Ev.pkO (.t rfl) rfl) ?_
    refine nP ?_
    first | refine condD rfl (fun h1 => ?_) (fun h1 => ?_) | refine cond rfl (fun h1 => ?_) (fun h1 => ?_)
    · have hbad : addBad l c = true := by unfold addBad; exact h1
      refine sg (co (Ev.assign (.c (v := .bool false) rfl)) ?_)
      refine nP (ret (pR (bR (pR (done rfl (.tmp rfl .nil) (fun w I => ?_))))))
      have eL : changeL l c rl = l := by unfold changeL; rw [ek, if_pos rfl, if_pos hbad]
      have eD : changeD d c = d := by unfold changeD; rw [ek, if_neg (by decide)]
      have eB : changeB l c = false := by unfold changeB; rw [ek, if_pos rfl]; rw [hbad]; rfl
      refine retR (n := 185) (r' := fun x2 => CR b x2 (changeL l c rl) (changeD d c)) (⟨x.o1, x.o2, x.o3, x.o4, x.o5⟩ : CB) trivial (by rw [eB]; rfl) (List.mem_singleton_self _) w ?_
      rw [eL, eD]
      exact WInv.seps _ _ [] (I.subP (by repeat first | exact SubP.nil | refine SubP.cons (by repeat first | exact Rem.head | apply Rem.tail) ?_))
    · have hok : ¬ addBad l c = true := fun e => Bool.false_ne_true ((show addBad l c = false from h1).symm.trans e)
      refine skip (pN (seq (draw' (by kernel_rfl) ?_)))
      refine tk 0 rfl (Ev.move (.t rfl)) ?_
      refine tk 1 rfl (Ev.nilCheck (.t rfl)) ?_
      refine tk 2 rfl (fA 0 (.t rfl)) ?_
      refine tk 3 rfl (Ev.to (v' := x.o1.v) (Ev.ldv ty22 (.t rfl) SConf.l_ports) (rfl)) ?_
      refine tk 4 rfl (fA 1 (.t rfl)) ?_
      refine tk 5 rfl (Ev.ldv ty3 (.t rfl) SChange.l_port) ?_
      refine al1 6 rfl ((callv en135 (.cons (.t rfl) (.cons (.t rfl) .nil)) (fun w I => search_ok _ l.ps _ w (io w I) hs (by omega)) ?_))
      refine hdn (tk 7 rfl (Ev.move (.t rfl)) ?_)
      refine tk 8 rfl (Ev.extract (.t rfl) rfl) ?_
      refine tk 9 rfl (Ev.extract (.t rfl) rfl) ?_
      refine tk 10 rfl (Ev.assign (.t rfl)) ?_
      refine tk 11 rfl (Ev.assign (.t rfl)) ?_
      refine ovr (pN (draw [Var b1 eChange c 61, OwnS x.o2.v eRoute l.rs 52, OwnS x.o3.v eRule l.us 76, OwnS x.o4.v eMeterConf l.ms 57, OwnS x.o5.v eMirrorConf l.xs 59] (by kernel_rfl) ?_))
      refine tk 0 rfl (Ev.move (.t rfl)) ?_
      refine tk 1 rfl (Ev.move (.t rfl)) ?_
      refine tk 2 rfl (Ev.nilCheck (.t rfl)) ?_
      refine tk 3 rfl (fA 0 (.t rfl)) ?_
      refine tk 5 rfl (Ev.move (.t rfl)) ?_
      refine tk 6 rfl (fA 1 (.t rfl)) ?_
      refine tk 7 rfl (Ev.ldv ty3 (.t rfl) SChange.l_port) ?_
      refine all [4, 8] (by kernel_rfl) (by decide) (.cons rfl ?_ (.cons rfl ?_ .nil))
      · refine (opv (Ev.to (v' := x.o1.v) (Ev.ldv ty22 (.t rfl) SConf.l_ports) (rfl)) ?_)
        refine hdn (al1 8 rfl ((buildSlice (E := iE) Tryz.underlying22 ty3 z3 (.cons (.t rfl) .nil) rfl rfl (fun v2 => ?_))))
        refine hdn (al1 9 rfl ((callr (X := OV) (r := OwnS x.o1.v iE l.ps 3) (r' := fun n1 => OwnS n1.v iE (insL l.ps (lowB l.ps c.port) c.port) 3) (fun _ => True) (fun n1 => n1.v) (fun _ => by repeat first | exact Upd.head | apply Upd.tail | apply Upd.right) (by repeat first | exact mH | apply mT | apply mA) en136 (.cons (.t rfl) (.cons (.t rfl) (.cons (.t rfl) .nil))) (fun w I => insert_ok x.o1 v2 l.ps (lowB l.ps c.port) c.port w (am w I) (am w I) (I.disj (by repeat first | exact Rem.head | apply Rem.tail) (by repeat first | exact Rem.head | apply Rem.tail)) (lowB_le _ _) (by omega)) (fun n1 _ => ?_))))
        refine hdn (tk 10 rfl (Ev.nilCheck (.t rfl)) ?_)
        refine tk 11 rfl (fA 0 (.t rfl)) ?_
        refine al1 12 rfl ((stv ty22 SConf.l_ports (.t rfl) (.t rfl) ?_))
        refine hdn (ovr (bN (pN (sg (mv rfl (asn rfl (nP (ret (done rfl (.tmp rfl .nil) (fun w I => ?_))))))))))
        have eL : changeL l c rl = { l with ps := insL l.ps (lowB l.ps c.port) c.port } := by unfold changeL; rw [ek, if_pos rfl, if_neg hok]
        have eD : changeD d c = d := by unfold changeD; rw [ek, if_neg (by decide)]
        have eB : changeB l c = true := by unfold changeB; rw [ek, if_pos rfl]; rw [eq_false_of_ne_true hok]; rfl
        refine retR (n := 185) (r' := fun x2 => CR b x2 (changeL l c rl) (changeD d c)) (⟨n1, x.o2, x.o3, x.o4, x.o5⟩ : CB) trivial (by rw [eB]; rfl) (List.mem_singleton_self _) w ?_
        rw [eL, eD]
        exact WInv.seps _ _ [] (I.subP (by repeat first | exact SubP.nil | refine SubP.cons (by repeat first | exact Rem.head | apply Rem.tail) ?_))
      · refine (buildSlice (E := iE) Tryz.underlying22 ty3 z3 (.cons (.t rfl) .nil) rfl rfl (fun v3 => ?_))
        refine hdn (al1 4 rfl ((opv (Ev.to (v' := x.o1.v) (Ev.ldv ty22 (.t rfl) SConf.l_ports) (rfl)) ?_)))
        refine hdn (al1 9 rfl ((callr (X := OV) (r := OwnS x.o1.v iE l.ps 3) (r' := fun n1 => OwnS n1.v iE (insL l.ps (lowB l.ps c.port) c.port) 3) (fun _ => True) (fun n1 => n1.v) (fun _ => by repeat first | exact Upd.head | apply Upd.tail | apply Upd.right) (by repeat first | exact mH | apply mT | apply mA) en136 (.cons (.t rfl) (.cons (.t rfl) (.cons (.t rfl) .nil))) (fun w I => insert_ok x.o1 v3 l.ps (lowB l.ps c.port) c.port w (am w I) (am w I) (I.disj (by repeat first | exact Rem.head | apply Rem.tail) (by repeat first | exact Rem.head | apply Rem.tail)) (lowB_le _ _) (by omega)) (fun n1 _ => ?_))))
        refine hdn (tk 10 rfl (Ev.nilCheck (.t rfl)) ?_)
        refine tk 11 rfl (fA 0 (.t rfl)) ?_
        refine al1 12 rfl ((stv ty22 SConf.l_ports (.t rfl) (.t rfl) ?_))
        refine hdn (ovr (bN (pN (sg (mv rfl (asn rfl (nP (ret (done rfl (.tmp rfl .nil) (fun w I => ?_))))))))))
        have eL : changeL l c rl = { l with ps := insL l.ps (lowB l.ps c.port) c.port } := by unfold changeL; rw [ek, if_pos rfl, if_neg hok]
        have eD : changeD d c = d := by unfold changeD; rw [ek, if_neg (by decide)]
        have eB : changeB l c = true := by unfold changeB; rw [ek, if_pos rfl]; rw [eq_false_of_ne_true hok]; rfl
        refine retR (n := 185) (r' := fun x2 => CR b x2 (changeL l c rl) (changeD d c)) (⟨n1, x.o2, x.o3, x.o4, x.o5⟩ : CB) trivial (by rw [eB]; rfl) (List.mem_singleton_self _) w ?_
        rw [eL, eD]
        exact WInv.seps _ _ [] (I.subP (by repeat first | exact SubP.nil | refine SubP.cons (by repeat first | exact Rem.head | apply Rem.tail) ?_))
  · have n1 : ¬ c.kind = 1 := h0
    refine sg (co (Ev.eql_i (.t rfl) (.c (v := I 2) rfl)) ?_)
    refine asn rfl (nP ?_)
    first | refine condD rfl (fun h2 => ?_) (fun h2 => ?_) | refine cond rfl (fun h2 => ?_) (fun h2 => ?_)
    · have ek : c.kind = 2 := h2
      refine region (mv rfl (mv rfl (co (Ev.nilCheck (.t rfl)) ?_)))
      refine co (fA 0 (.t rfl)) ?_
      refine co (Ev.to (v' := x.o1.v) (Ev.ldv ty22 (.t rfl) SConf.l_ports) (rfl)) ?_
      refine mv rfl (cons (callr (X := OV) (r := OwnS x.o1.v iE l.ps 3) (r' := fun n1 => OwnS n1.v iE (cutI l.ps (iP l c)) 3) (fun _ => True) (fun n1 => .tuple #[n1.v, .bool (decide (¬ iP l c < 0))]) (fun _ => by repeat first | exact Upd.head | apply Upd.tail | apply Upd.right) (by repeat first | exact mH | apply mT | apply mA) en137 (.cons (.t rfl) (.cons (.t rfl) .nil)) (fun w I => cut_3 x.o1 l.ps (iP l c) w (am w I) (by have := idxF_lt (fun y => decide (c.port = y)) l.ps; have h2 : iP l c = idxF (fun y => decide (c.port = y)) l.ps := rfl; omega)) (fun n1 _ => ?_)))
      refine mv rfl (co (Ev.extract (.t rfl) rfl) (co (Ev.extract (.t rfl) rfl) (co (Ev.nilCheck (.t rfl)) ?_)))
      refine co (fA 0 (.t rfl)) ?_
      refine cons (stv ty22 SConf.l_ports (.t rfl) (.t rfl) ?_)
      refine asn rfl (nil (bN (pN (sg (mv rfl (asn rfl (nP (ret (done rfl (.tmp rfl .nil) (fun w I => ?_))))))))))
      have eL : changeL l c rl = { l with ps := cutI l.ps (iP l c) } := by unfold changeL; rw [ek, if_neg (by decide), if_pos rfl]
      have eD : changeD d c = d := by unfold changeD; rw [ek, if_neg (by decide)]
      have eB : changeB l c = decide (¬ iP l c < 0) := by unfold changeB; rw [ek, if_neg (by decide), if_pos rfl]
      refine retR (n := 185) (r' := fun x2 => CR b x2 (changeL l c rl) (changeD d c)) (⟨n1, x.o2, x.o3, x.o4, x.o5⟩ : CB) trivial (by rw [eB]; rfl) (List.mem_singleton_self _) w ?_
      rw [eL, eD]
      exact WInv.seps _ _ [] (I.subP (by repeat first | exact SubP.nil | refine SubP.cons (by repeat first | exact Rem.head | apply Rem.tail) ?_))
    · have n2 : ¬ c.kind = 2 := h2
      refine sg (co (Ev.eql_i (.t rfl) (.c (v := I 3) rfl)) ?_)
      refine asn rfl (nP ?_)
      first | refine condD rfl (fun h3 => ?_) (fun h3 => ?_) | refine cond rfl (fun h3 => ?_) (fun h3 => ?_)
      · have ek : c.kind = 3 := h3
        refine draw [Var b1 eChange c 61, OwnS x.o1.v iE l.ps 3, OwnS x.o3.v eRule l.us 76, OwnS x.o4.v eMeterConf l.ms 57, OwnS x.o5.v eMirrorConf l.xs 59] (by kernel_rfl) ?_
        refine tk 0 rfl (Ev.move (.t rfl)) ?_
        refine tk 1 rfl (Ev.move (.t rfl)) ?_
        refine tk 2 rfl (Ev.nilCheck (.t rfl)) ?_
        refine tk 3 rfl (fA 1 (.t rfl)) ?_
        refine tk 5 rfl (Ev.move (.t rfl)) ?_
        refine tk 6 rfl (fA 2 (.t rfl)) ?_
        refine tk 7 rfl (Ev.ldv ty52 (.t rfl) SChange.l_route) ?_
        refine al1 4 rfl ((opv (Ev.to (v' := x.o2.v) (Ev.ldv ty23 (.t rfl) SConf.l_routes) (rfl)) ?_))
        refine hdn (al1 8 rfl ((callr (X := OV) (r := OwnS x.o2.v eRoute l.rs 52) (r' := fun n1 => OwnS n1.v eRoute (setL l.rs (iR l c) c.route) 52) (fun _ => True) (fun n1 => n1.v) (fun _ => by repeat first | exact Upd.head | apply Upd.tail | apply Upd.right) (by repeat first | exact mH | apply mT | apply mA) en138 (.cons (.t rfl) (.cons (.t rfl) (.cons (.t rfl) .nil))) (fun w I => set_52 x.o2 l.rs (iR l c) c.route w (am w I) (by omega) (by have := idxF_lt (fun r => SPrefix.eqb r.to_ c.route.to_) l.rs; have h2 : iR l c = idxF (fun r => SPrefix.eqb r.to_ c.route.to_) l.rs := rfl; omega)) (fun n1 _ => ?_))))
        refine hdn (tk 9 rfl (Ev.nilCheck (.t rfl)) ?_)
        refine tk 10 rfl (fA 1 (.t rfl)) ?_
        refine al1 11 rfl ((stv ty23 SConf.l_routes (.t rfl) (.t rfl) ?_))
        refine hdn (ovr (bN (pN (sg (mv rfl (asn rfl (nP (ret (done rfl (.tmp rfl .nil) (fun w I => ?_))))))))))
        have eL : changeL l c rl = { l with rs := setL l.rs (iR l c) c.route } := by unfold changeL; rw [ek, if_neg (by decide), if_neg (by decide), if_pos rfl]
        have eD : changeD d c = d := by unfold changeD; rw [ek, if_neg (by decide)]
        have eB : changeB l c = true := by unfold changeB; rw [ek, if_neg (by decide), if_neg (by decide), if_pos rfl]
        refine retR (n := 185) (r' := fun x2 => CR b x2 (changeL l c rl) (changeD d c)) (⟨x.o1, n1, x.o3, x.o4, x.o5⟩ : CB) trivial (by rw [eB]; rfl) (List.mem_singleton_self _) w ?_
        rw [eL, eD]
        exact WInv.seps _ _ [] (I.subP (by repeat first | exact SubP.nil | refine SubP.cons (by repeat first | exact Rem.head | apply Rem.tail) ?_))
      · have n3 : ¬ c.kind = 3 := h3
        refine sg (co (Ev.eql_i (.t rfl) (.c (v := I 4) rfl)) ?_)
        refine asn rfl (nP ?_)
        first | refine condD rfl (fun h4 => ?_) (fun h4 => ?_) | refine cond rfl (fun h4 => ?_) (fun h4 => ?_)
        · have ek : c.kind = 4 := h4
          refine region (mv rfl (mv rfl (co (Ev.nilCheck (.t rfl)) ?_)))
          refine co (fA 1 (.t rfl)) ?_
          refine co (Ev.to (v' := x.o2.v) (Ev.ldv ty23 (.t rfl) SConf.l_routes) (rfl)) ?_
          refine mv rfl (cons (callr (X := OV) (r := OwnS x.o2.v eRoute l.rs 52) (r' := fun n1 => OwnS n1.v eRoute (cutI l.rs (iR l c)) 52) (fun _ => True) (fun n1 => .tuple #[n1.v, .bool (decide (¬ iR l c < 0))]) (fun _ => by repeat first | exact Upd.head | apply Upd.tail | apply Upd.right) (by repeat first | exact mH | apply mT | apply mA) en139 (.cons (.t rfl) (.cons (.t rfl) .nil)) (fun w I => cut_52 x.o2 l.rs (iR l c) w (am w I) (by have := idxF_lt (fun r => SPrefix.eqb r.to_ c.route.to_) l.rs; have h2 : iR l c = idxF (fun r => SPrefix.eqb r.to_ c.route.to_) l.rs := rfl; omega)) (fun n1 _ => ?_)))
          refine mv rfl (co (Ev.extract (.t rfl) rfl) (co (Ev.extract (.t rfl) rfl) (co (Ev.nilCheck (.t rfl)) ?_)))
          refine co (fA 1 (.t rfl)) ?_
          refine cons (stv ty23 SConf.l_routes (.t rfl) (.t rfl) ?_)
          refine asn rfl (nil (bN (pN (sg (mv rfl (asn rfl (nP (ret (done rfl (.tmp rfl .nil) (fun w I => ?_))))))))))
          have eL : changeL l c rl = { l with rs := cutI l.rs (iR l c) } := by unfold changeL; rw [ek, if_neg (by decide), if_neg (by decide), if_neg (by decide), if_pos rfl]
          have eD : changeD d c = d := by unfold changeD; rw [ek, if_neg (by decide)]
          have eB : changeB l c = decide (¬ iR l c < 0) := by unfold changeB; rw [ek, if_neg (by decide), if_neg (by decide), if_neg (by decide), if_pos rfl]
          refine retR (n := 185) (r' := fun x2 => CR b x2 (changeL l c rl) (changeD d c)) (⟨x.o1, n1, x.o3, x.o4, x.o5⟩ : CB) trivial (by rw [eB]; rfl) (List.mem_singleton_self _) w ?_
          rw [eL, eD]
          exact WInv.seps _ _ [] (I.subP (by repeat first | exact SubP.nil | refine SubP.cons (by repeat first | exact Rem.head | apply Rem.tail) ?_))
        · have n4 : ¬ c.kind = 4 := h4
          refine sg (co (Ev.eql_i (.t rfl) (.c (v := I 5) rfl)) ?_)
          refine asn rfl (nP ?_)
          first | refine condD rfl (fun h5 => ?_) (fun h5 => ?_) | refine cond rfl (fun h5 => ?_) (fun h5 => ?_)
          · have ek : c.kind = 5 := h5
            refine draw [Var b1 eChange c 61, OwnS x.o1.v iE l.ps 3, OwnS x.o2.v eRoute l.rs 52, OwnS x.o3.v eRule l.us 76, OwnS x.o5.v eMirrorConf l.xs 59] (by kernel_rfl) ?_
            refine tk 0 rfl (Ev.move (.t rfl)) ?_
            refine tk 1 rfl (Ev.move (.t rfl)) ?_
            refine tk 2 rfl (Ev.nilCheck (.t rfl)) ?_
            refine tk 3 rfl (fA 3 (.t rfl)) ?_
            refine tk 5 rfl (Ev.move (.t rfl)) ?_
            refine tk 6 rfl (fA 21 (.t rfl)) ?_
            refine tk 7 rfl (Ev.ldv ty57 (.t rfl) SChange.l_meter) ?_
            refine al1 4 rfl ((opv (Ev.to (v' := x.o4.v) (Ev.ldv ty25 (.t rfl) SConf.l_meters) (rfl)) ?_))
            refine hdn (al1 8 rfl ((callr (X := OV) (r := OwnS x.o4.v eMeterConf l.ms 57) (r' := fun n1 => OwnS n1.v eMeterConf (setL l.ms (iM l c) c.meter) 57) (fun _ => True) (fun n1 => n1.v) (fun _ => by repeat first | exact Upd.head | apply Upd.tail | apply Upd.right) (by repeat first | exact mH | apply mT | apply mA) en140 (.cons (.t rfl) (.cons (.t rfl) (.cons (.t rfl) .nil))) (fun w I => set_57 x.o4 l.ms (iM l c) c.meter w (am w I) (by omega) (by have := idxF_lt (fun r => decide (r.name = c.meter.name)) l.ms; have h2 : iM l c = idxF (fun r => decide (r.name = c.meter.name)) l.ms := rfl; omega)) (fun n1 _ => ?_))))
            refine hdn (tk 9 rfl (Ev.nilCheck (.t rfl)) ?_)
            refine tk 10 rfl (fA 3 (.t rfl)) ?_
            refine al1 11 rfl ((stv ty25 SConf.l_meters (.t rfl) (.t rfl) ?_))
            refine hdn (ovr (bN (pN (sg (mv rfl (asn rfl (nP (ret (done rfl (.tmp rfl .nil) (fun w I => ?_))))))))))
            have eL : changeL l c rl = { l with ms := setL l.ms (iM l c) c.meter } := by unfold changeL; rw [ek, if_neg (by decide), if_neg (by decide), if_neg (by decide), if_neg (by decide), if_pos rfl]
            have eD : changeD d c = d := by unfold changeD; rw [ek, if_neg (by decide)]
            have eB : changeB l c = true := by unfold changeB; rw [ek, if_neg (by decide), if_neg (by decide), if_neg (by decide), if_neg (by decide), if_pos rfl]
            refine retR (n := 185) (r' := fun x2 => CR b x2 (changeL l c rl) (changeD d c)) (⟨x.o1, x.o2, x.o3, n1, x.o5⟩ : CB) trivial (by rw [eB]; rfl) (List.mem_singleton_self _) w ?_
            rw [eL, eD]
            exact WInv.seps _ _ [] (I.subP (by repeat first | exact SubP.nil | refine SubP.cons (by repeat first | exact Rem.head | apply Rem.tail) ?_))
          · have n5 : ¬ c.kind = 5 := h5
            refine sg (co (Ev.eql_i (.t rfl) (.c (v := I 6) rfl)) ?_)
            refine asn rfl (nP ?_)
            first | refine condD rfl (fun h6 => ?_) (fun h6 => ?_) | refine cond rfl (fun h6 => ?_) (fun h6 => ?_)
            · have ek : c.kind = 6 := h6
              refine region (mv rfl (mv rfl (co (Ev.nilCheck (.t rfl)) ?_)))
              refine co (fA 3 (.t rfl)) ?_
              refine co (Ev.to (v' := x.o4.v) (Ev.ldv ty25 (.t rfl) SConf.l_meters) (rfl)) ?_
              refine mv rfl (cons (callr (X := OV) (r := OwnS x.o4.v eMeterConf l.ms 57) (r' := fun n1 => OwnS n1.v eMeterConf (cutI l.ms (iM l c)) 57) (fun _ => True) (fun n1 => .tuple #[n1.v, .bool (decide (¬ iM l c < 0))]) (fun _ => by repeat first | exact Upd.head | apply Upd.tail | apply Upd.right) (by repeat first | exact mH | apply mT | apply mA) en141 (.cons (.t rfl) (.cons (.t rfl) .nil)) (fun w I => cut_57 x.o4 l.ms (iM l c) w (am w I) (by have := idxF_lt (fun r => decide (r.name = c.meter.name)) l.ms; have h2 : iM l c = idxF (fun r => decide (r.name = c.meter.name)) l.ms := rfl; omega)) (fun n1 _ => ?_)))
              refine mv rfl (co (Ev.extract (.t rfl) rfl) (co (Ev.extract (.t rfl) rfl) (co (Ev.nilCheck (.t rfl)) ?_)))
              refine co (fA 3 (.t rfl)) ?_
              refine cons (stv ty25 SConf.l_meters (.t rfl) (.t rfl) ?_)
              refine asn rfl (nil (bN (pN (sg (mv rfl (asn rfl (nP (ret (done rfl (.tmp rfl .nil) (fun w I => ?_))))))))))
              have eL : changeL l c rl = { l with ms := cutI l.ms (iM l c) } := by unfold changeL; rw [ek, if_neg (by decide), if_neg (by decide), if_neg (by decide), if_neg (by decide), if_neg (by decide), if_pos rfl]
              have eD : changeD d c = d := by unfold changeD; rw [ek, if_neg (by decide)]
              have eB : changeB l c = decide (¬ iM l c < 0) := by unfold changeB; rw [ek, if_neg (by decide), if_neg (by decide), if_neg (by decide), if_neg (by decide), if_neg (by decide), if_pos rfl]
              refine retR (n := 185) (r' := fun x2 => CR b x2 (changeL l c rl) (changeD d c)) (⟨x.o1, x.o2, x.o3, n1, x.o5⟩ : CB) trivial (by rw [eB]; rfl) (List.mem_singleton_self _) w ?_
              rw [eL, eD]
              exact WInv.seps _ _ [] (I.subP (by repeat first | exact SubP.nil | refine SubP.cons (by repeat first | exact Rem.head | apply Rem.tail) ?_))
            · have n6 : ¬ c.kind = 6 := h6
              refine sg (co (Ev.eql_i (.t rfl) (.c (v := I 7) rfl)) ?_)
              refine asn rfl (nP ?_)
              first | refine condD rfl (fun h7 => ?_) (fun h7 => ?_) | refine cond rfl (fun h7 => ?_) (fun h7 => ?_)
              · have ek : c.kind = 7 := h7
                refine draw [Var b1 eChange c 61, OwnS x.o1.v iE l.ps 3, OwnS x.o2.v eRoute l.rs 52, OwnS x.o3.v eRule l.us 76, OwnS x.o4.v eMeterConf l.ms 57] (by kernel_rfl) ?_
                refine tk 0 rfl (Ev.move (.t rfl)) ?_
                refine tk 1 rfl (Ev.move (.t rfl)) ?_
                refine tk 2 rfl (Ev.nilCheck (.t rfl)) ?_
                refine tk 3 rfl (fA 4 (.t rfl)) ?_
                refine tk 5 rfl (Ev.move (.t rfl)) ?_
                refine tk 6 rfl (fA 25 (.t rfl)) ?_
                refine tk 7 rfl (Ev.ldv ty59 (.t rfl) SChange.l_mirror) ?_
                refine al1 4 rfl ((opv (Ev.to (v' := x.o5.v) (Ev.ldv ty26 (.t rfl) SConf.l_mirrors) (rfl)) ?_))
                refine hdn (al1 8 rfl ((callr (X := OV) (r := OwnS x.o5.v eMirrorConf l.xs 59) (r' := fun n1 => OwnS n1.v eMirrorConf (setL l.xs (iX l c) c.mirror) 59) (fun _ => True) (fun n1 => n1.v) (fun _ => by repeat first | exact Upd.head | apply Upd.tail | apply Upd.right) (by repeat first | exact mH | apply mT | apply mA) en142 (.cons (.t rfl) (.cons (.t rfl) (.cons (.t rfl) .nil))) (fun w I => set_59 x.o5 l.xs (iX l c) c.mirror w (am w I) (by omega) (by have := idxF_lt (fun r => decide (r.name = c.mirror.name)) l.xs; have h2 : iX l c = idxF (fun r => decide (r.name = c.mirror.name)) l.xs := rfl; omega)) (fun n1 _ => ?_))))
                refine hdn (tk 9 rfl (Ev.nilCheck (.t rfl)) ?_)
                refine tk 10 rfl (fA 4 (.t rfl)) ?_
                refine al1 11 rfl ((stv ty26 SConf.l_mirrors (.t rfl) (.t rfl) ?_))
                refine hdn (ovr (bN (pN (sg (mv rfl (asn rfl (nP (ret (done rfl (.tmp rfl .nil) (fun w I => ?_))))))))))
                have eL : changeL l c rl = { l with xs := setL l.xs (iX l c) c.mirror } := by unfold changeL; rw [ek, if_neg (by decide), if_neg (by decide), if_neg (by decide), if_neg (by decide), if_neg (by decide), if_neg (by decide), if_pos rfl]
                have eD : changeD d c = d := by unfold changeD; rw [ek, if_neg (by decide)]
                have eB : changeB l c = true := by unfold changeB; rw [ek, if_neg (by decide), if_neg (by decide), if_neg (by decide), if_neg (by decide), if_neg (by decide), if_neg (by decide), if_pos rfl]
                refine retR (n := 185) (r' := fun x2 => CR b x2 (changeL l c rl) (changeD d c)) (⟨x.o1, x.o2, x.o3, x.o4, n1⟩ : CB) trivial (by rw [eB]; rfl) (List.mem_singleton_self _) w ?_
                rw [eL, eD]
                exact WInv.seps _ _ [] (I.subP (by repeat first | exact SubP.nil | refine SubP.cons (by repeat first | exact Rem.head | apply Rem.tail) ?_))
              · have n7 : ¬ c.kind = 7 := h7
                refine sg (co (Ev.eql_i (.t rfl) (.c (v := I 8) rfl)) ?_)
                refine asn rfl (nP ?_)
                first | refine condD rfl (fun h8 => ?_) (fun h8 => ?_) | refine cond rfl (fun h8 => ?_) (fun h8 => ?_)
                · have ek : c.kind = 8 := h8
                  refine region (mv rfl (mv rfl (co (Ev.nilCheck (.t rfl)) ?_)))
                  refine co (fA 4 (.t rfl)) ?_
                  refine co (Ev.to (v' := x.o5.v) (Ev.ldv ty26 (.t rfl) SConf.l_mirrors) (rfl)) ?_
                  refine mv rfl (cons (callr (X := OV) (r := OwnS x.o5.v eMirrorConf l.xs 59) (r' := fun n1 => OwnS n1.v eMirrorConf (cutI l.xs (iX l c)) 59) (fun _ => True) (fun n1 => .tuple #[n1.v, .bool (decide (¬ iX l c < 0))]) (fun _ => by repeat first | exact Upd.head | apply Upd.tail | apply Upd.right) (by repeat first | exact mH | apply mT | apply mA) en143 (.cons (.t rfl) (.cons (.t rfl) .nil)) (fun w I => cut_59 x.o5 l.xs (iX l c) w (am w I) (by have := idxF_lt (fun r => decide (r.name = c.mirror.name)) l.xs; have h2 : iX l c = idxF (fun r => decide (r.name = c.mirror.name)) l.xs := rfl; omega)) (fun n1 _ => ?_)))
                  refine mv rfl (co (Ev.extract (.t rfl) rfl) (co (Ev.extract (.t rfl) rfl) (co (Ev.nilCheck (.t rfl)) ?_)))
                  refine co (fA 4 (.t rfl)) ?_
                  refine cons (stv ty26 SConf.l_mirrors (.t rfl) (.t rfl) ?_)
                  refine asn rfl (nil (bN (pN (sg (mv rfl (asn rfl (nP (ret (done rfl (.tmp rfl .nil) (fun w I => ?_))))))))))
                  have eL : changeL l c rl = { l with xs := cutI l.xs (iX l c) } := by unfold changeL; rw [ek, if_neg (by decide), if_neg (by decide), if_neg (by decide), if_neg (by decide), if_neg (by decide), if_neg (by decide), if_neg (by decide), if_pos rfl]
                  have eD : changeD d c = d := by unfold changeD; rw [ek, if_neg (by decide)]
                  have eB : changeB l c = decide (¬ iX l c < 0) := by unfold changeB; rw [ek, if_neg (by decide), if_neg (by decide), if_neg (by decide), if_neg (by decide), if_neg (by decide), if_neg (by decide), if_neg (by decide), if_pos rfl]
                  refine retR (n := 185) (r' := fun x2 => CR b x2 (changeL l c rl) (changeD d c)) (⟨x.o1, x.o2, x.o3, x.o4, n1⟩ : CB) trivial (by rw [eB]; rfl) (List.mem_singleton_self _) w ?_
                  rw [eL, eD]
                  exact WInv.seps _ _ [] (I.subP (by repeat first | exact SubP.nil | refine SubP.cons (by repeat first | exact Rem.head | apply Rem.tail) ?_))
                · have n8 : ¬ c.kind = 8 := h8
                  refine sg (co (Ev.eql_i (.t rfl) (.c (v := I 9) rfl)) ?_)
                  refine asn rfl (nP ?_)
                  first | refine condD rfl (fun h9 => ?_) (fun h9 => ?_) | refine cond rfl (fun h9 => ?_) (fun h9 => ?_)
                  · have ek : c.kind = 9 := h9
                    refine region (mv rfl (co (fA 28 (.t rfl)) ?_))
                    refine co (Ev.ldv ty24 (.t rfl) SChange.l_rules) ?_
                    refine cons (callo en50 (.cons (.t rfl) .nil) (fun w I => clone_76 _ rl w (hr w I.keeps) hrl) (fun n1 => ?_))
                    refine co (Ev.nilCheck (.t rfl)) ?_
                    refine co (fA 2 (.t rfl)) ?_
                    refine cons (stv ty24 SConf.l_rules (.t rfl) (.t rfl) ?_)
                    refine nil (bN (pN (sg (mv rfl (asn rfl (nP (ret (done rfl (.tmp rfl .nil) (fun w I => ?_)))))))))
                    have eL : changeL l c rl = { l with us := rl } := by unfold changeL; rw [ek, if_neg (by decide), if_neg (by decide), if_neg (by decide), if_neg (by decide), if_neg (by decide), if_neg (by decide), if_neg (by decide), if_neg (by decide), if_pos rfl]
                    have eD : changeD d c = d := by unfold changeD; rw [ek, if_neg (by decide)]
                    have eB : changeB l c = true := by unfold changeB; rw [ek, if_neg (by decide), if_neg (by decide), if_neg (by decide), if_neg (by decide), if_neg (by decide), if_neg (by decide), if_neg (by decide), if_neg (by decide), if_pos rfl]
                    refine retR (n := 185) (r' := fun x2 => CR b x2 (changeL l c rl) (changeD d c)) (⟨x.o1, x.o2, n1, x.o4, x.o5⟩ : CB) trivial (by rw [eB]; rfl) (List.mem_singleton_self _) w ?_
                    rw [eL, eD]
                    exact WInv.seps _ _ [] (I.subP (by repeat first | exact SubP.nil | refine SubP.cons (by repeat first | exact Rem.head | apply Rem.tail) ?_))
                  · have n9 : ¬ c.kind = 9 := h9
                    refine sg (co (Ev.eql_i (.t rfl) (.c (v := I 10) rfl)) ?_)
                    refine asn rfl (nP ?_)
                    first | refine condD rfl (fun h10 => ?_) (fun h10 => ?_) | refine cond rfl (fun h10 => ?_) (fun h10 => ?_)
                    · have ek : c.kind = 10 := h10
                      refine region (mv rfl (co (fA 29 (.t rfl)) ?_))
                      refine co (Ev.ldv ty3 (.t rfl) SChange.l_default) ?_
                      refine co (Ev.nilCheck (.t rfl)) ?_
                      refine co (fA 5 (.t rfl)) ?_
                      refine cons (stv ty3 SConf.l_default (.t rfl) (.t rfl) ?_)
                      refine nil (bN (pN (sg (mv rfl (asn rfl (nP (ret (done rfl (.tmp rfl .nil) (fun w I => ?_)))))))))
                      have eL : changeL l c rl = l := by unfold changeL; rw [ek, if_neg (by decide), if_neg (by decide), if_neg (by decide), if_neg (by decide), if_neg (by decide), if_neg (by decide), if_neg (by decide), if_neg (by decide), if_neg (by decide)]
                      have eD : changeD d c = c.default := by unfold changeD; rw [ek, if_pos rfl]
                      have eB : changeB l c = true := by unfold changeB; rw [ek, if_neg (by decide), if_neg (by decide), if_neg (by decide), if_neg (by decide), if_neg (by decide), if_neg (by decide), if_neg (by decide), if_neg (by decide), if_neg (by decide)]; rfl
                      refine retR (n := 185) (r' := fun x2 => CR b x2 (changeL l c rl) (changeD d c)) (⟨x.o1, x.o2, x.o3, x.o4, x.o5⟩ : CB) trivial (by rw [eB]; rfl) (List.mem_singleton_self _) w ?_
                      rw [eL, eD]
                      exact WInv.seps _ _ [] (I.subP (by repeat first | exact SubP.nil | refine SubP.cons (by repeat first | exact Rem.head | apply Rem.tail) ?_))
                    · have n10 : ¬ c.kind = 10 := h10
                      refine sg (co (Ev.assign (.c (v := .bool false) rfl)) ?_)
                      refine nP (ret (bR (pR (done rfl (.tmp rfl .nil) (fun w I => ?_)))))
                      have eL : changeL l c rl = l := by unfold changeL; rw [if_neg n1, if_neg n2, if_neg n3, if_neg n4, if_neg n5, if_neg n6, if_neg n7, if_neg n8, if_neg n9]
                      have eD : changeD d c = d := by unfold changeD; rw [if_neg n10]
                      have eB : changeB l c = false := by unfold changeB; rw [if_neg n1, if_neg n2, if_neg n3, if_neg n4, if_neg n5, if_neg n6, if_neg n7, if_neg n8, if_neg n9]; exact decide_eq_false n10
                      refine retR (n := 185) (r' := fun x2 => CR b x2 (changeL l c rl) (changeD d c)) (⟨x.o1, x.o2, x.o3, x.o4, x.o5⟩ : CB) trivial (by rw [eB]; rfl) (List.mem_singleton_self _) w ?_
                      rw [eL, eD]
                      exact WInv.seps _ _ [] (I.subP (by repeat first | exact SubP.nil | refine SubP.cons (by repeat first | exact Rem.head | apply Rem.tail) ?_))
theorem co5 {K : Ctx} {L : List Res} {x : CB} {l : CL} {d : Int} (w : World) (I : WInv K L w) (h0 : OwnS x.o1.v iE l.ps 3 ∈ L := by repeat first | exact mH | apply mT | apply mA) (h1 : OwnS x.o2.v eRoute l.rs 52 ∈ L := by repeat first | exact mH | apply mT | apply mA) (h2 : OwnS x.o3.v eRule l.us 76 ∈ L := by repeat first | exact mH | apply mT | apply mA) (h3 : OwnS x.o4.v eMeterConf l.ms 57 ∈ L := by repeat first | exact mH | apply mT | apply mA) (h4 : OwnS x.o5.v eMirrorConf l.xs 59 ∈ L := by repeat first | exact mH | apply mT | apply mA) : ConfAt w (x.c d) l := ⟨isSl_own h0 w I, isSl_own h1 w I, isSl_own h2 w I, isSl_own h3 w I, isSl_own h4 w I⟩
structure CD where
  l : CL
  d : Int
def goN (s : CD) (cs : List SChange) (rls : List (List SRule)) : Nat → Option CD
  | 0 => some s
  | n + 1 => match goN s cs rls n with
    | none => none
    | some t => if changeB t.l (cs.getD n eChange.zero) = true then some ⟨changeL t.l (cs.getD n eChange.zero) (rls.getD n []), changeD t.d (cs.getD n eChange.zero)⟩ else none
def applyC (s : CD) (cs : List SChange) (rls : List (List SRule)) : Int × CD :=
  if mayB s.l s.d = true then (match goN s cs rls cs.length with
    | none => (211, ⟨⟨[], [], [], [], []⟩, 0⟩)
    | some t => if mayB t.l t.d = true then (0, t) else (210, ⟨⟨[], [], [], [], []⟩, 0⟩))
  else (210, ⟨⟨[], [], [], [], []⟩, 0⟩)
theorem goN_none {s : CD} {cs : List SChange} {rls : List (List SRule)} {n : Nat} (h : goN s cs rls n = none) : ∀ m, n ≤ m → goN s cs rls m = none := by
  intro m hm
  induction hm with
  | refl => exact h
  | step _ ih => rw [goN, ih]
structure CL.Way (l : CL) (n : Nat) : Prop where
  up : l.ps.Pairwise (· < ·)
  ps : l.ps.length ≤ 1024 + n
  rs : l.rs.length ≤ 1024 + n
  us : l.us.length * 152 ≤ 140737488355328
  ms : l.ms.length ≤ 1024 + n
  xs : l.xs.length ≤ 1024 + n
  nm : l.Names
theorem setL_mem {α : Type} {l : List α} {i : Int} {x y : α} (h : y ∈ setL l i x) : y ∈ l ∨ y = x := by
  unfold setL at h
  split at h
  · simpa using h
  · exact List.mem_or_eq_of_mem_set h
theorem setL_len {α : Type} (l : List α) (i : Int) (x : α) : (setL l i x).length ≤ l.length + 1 := by
  unfold setL
  split <;> simp
theorem cutI_sub {α : Type} (l : List α) (i : Int) : (cutI l i).Sublist l := by
  unfold cutI cutL
  split
  · exact List.Sublist.refl _
  · have h : (l.take i.toNat ++ l.drop i.toNat).Sublist l := by rw [List.take_append_drop]; exact List.Sublist.refl _
    refine List.Sublist.trans ?_ h
    refine List.Sublist.append (List.Sublist.refl _) ?_
    have e : (i + 1).toNat = i.toNat + ((i + 1).toNat - i.toNat) := by omega
    rw [e, ← List.drop_drop]
    exact List.drop_sublist _ _
theorem idxF_neg {α : Type} {p : α → Bool} {l : List α} (h : idxF p l < 0) : ∀ x ∈ l, p x = false := by
  unfold idxF at h
  cases e : l.findIdx? p with
  | none => exact List.findIdx?_eq_none_iff.1 e
  | some i => rw [e] at h; simp only at h; omega
theorem low_split {a : Int} : ∀ {l : List Int}, l.Pairwise (· < ·) → (∀ y ∈ l.take (l.countP (fun y => decide (y < a))), y < a) ∧ (∀ y ∈ l.drop (l.countP (fun y => decide (y < a))), ¬ y < a)
  | [], _ => by simp
  | y :: l, hs => by
    obtain ⟨h1, h2⟩ := List.pairwise_cons.1 hs
    obtain ⟨ih1, ih2⟩ := low_split h2
    by_cases hy : y < a
    · rw [List.countP_cons_of_pos (p := fun y => decide (y < a)) (by simpa using hy)]
      refine ⟨fun z hz => ?_, fun z hz => ?_⟩
      · rw [List.take_succ_cons] at hz
        rcases List.mem_cons.1 hz with rfl | h
        · exact hy
        · exact ih1 z h
      · rw [List.drop_succ_cons] at hz
        exact ih2 z hz
    · have e : (y :: l).countP (fun y => decide (y < a)) = 0 := by
        rw [List.countP_eq_zero]
        intro z hz
        rcases List.mem_cons.1 hz with rfl | h
        · simpa using hy
        · have := h1 z h
          simp
          omega
      rw [e]
      refine ⟨fun z hz => by simp at hz, fun z hz => ?_⟩
      rcases List.mem_cons.1 hz with rfl | h
      · exact hy
      · have := h1 z h
        omega
theorem low_ins {l : List Int} {a : Int} (hs : l.Pairwise (· < ·)) (hn : ∀ y ∈ l, ¬ a = y) : (insL l (lowB l a) a).Pairwise (· < ·) := by
  obtain ⟨k1, k2⟩ := low_split (a := a) hs
  unfold insL lowB
  rw [Int.toNat_natCast]
  generalize l.countP (fun y => decide (y < a)) = n at *
  have hs2 := hs
  rw [← List.take_append_drop n l, List.pairwise_append] at hs2
  obtain ⟨s1, s2, s3⟩ := hs2
  rw [List.append_assoc, List.pairwise_append]
  refine ⟨s1, ?_, fun x hx y hy => ?_⟩
  · rw [List.singleton_append, List.pairwise_cons]
    refine ⟨fun y hy => ?_, s2⟩
    have := k2 y hy
    have := hn y (List.mem_of_mem_drop hy)
    omega
  · rcases List.mem_append.1 hy with h | h
    · rw [List.mem_singleton.1 h]
      exact k1 x hx
    · exact s3 x hx y h
theorem insL_len (l : List Int) (i a : Int) : (insL l i a).length ≤ l.length + 1 := by
  unfold insL
  simp
  omega
theorem addOk {l : CL} {c : SChange} (h : ¬ addBad l c = true) : ∀ y ∈ l.ps, ¬ c.port = y := by
  unfold addBad at h
  have h1 : iP l c < 0 := by
    simp at h
    omega
  intro y hy
  simpa using idxF_neg h1 y hy
theorem change_way {l : CL} {n : Nat} {c : SChange} {rl : List SRule} (h : l.Way n) (hc : c.meter.name.size ≤ 9223372036854775807 ∧ c.mirror.name.size ≤ 9223372036854775807) (hr : rl.length * 152 ≤ 140737488355328) (hrn : ∀ x ∈ rl, x.name.size ≤ 9223372036854775807) : (changeL l c rl).Way (n + 1) := by
  obtain ⟨h1, h2, h3, h4, h5, h6, h7, h8, h9⟩ := h
  unfold changeL
  split
  · split
    · exact ⟨h1, by omega, by omega, h4, by omega, by omega, h7, h8, h9⟩
    · rename_i hb
      exact ⟨low_ins h1 (addOk hb), by have := insL_len l.ps (lowB l.ps c.port) c.port; show (insL _ _ _).length ≤ _; omega, (by dsimp only; omega), h4, (by dsimp only; omega), (by dsimp only; omega), h7, h8, h9⟩
  split
  · exact ⟨h1.sublist (cutI_sub _ _), by have := (cutI_sub l.ps (iP l c)).length_le; show (cutI _ _).length ≤ _; omega, (by dsimp only; omega), h4, (by dsimp only; omega), (by dsimp only; omega), h7, h8, h9⟩
  split
  · exact ⟨h1, (by dsimp only; omega), by have := setL_len l.rs (iR l c) c.route; show (setL _ _ _).length ≤ _; omega, h4, (by dsimp only; omega), (by dsimp only; omega), h7, h8, h9⟩
  split
  · exact ⟨h1, (by dsimp only; omega), by have := (cutI_sub l.rs (iR l c)).length_le; show (cutI _ _).length ≤ _; omega, h4, (by dsimp only; omega), (by dsimp only; omega), h7, h8, h9⟩
  split
  · exact ⟨h1, (by dsimp only; omega), (by dsimp only; omega), h4, by have := setL_len l.ms (iM l c) c.meter; show (setL _ _ _).length ≤ _; omega, (by dsimp only; omega), h7, fun x hx => (setL_mem hx).elim (h8 x) (fun e => e ▸ hc.1), h9⟩
  split
  · exact ⟨h1, (by dsimp only; omega), (by dsimp only; omega), h4, by have := (cutI_sub l.ms (iM l c)).length_le; show (cutI _ _).length ≤ _; omega, (by dsimp only; omega), h7, fun x hx => h8 x ((cutI_sub _ _).subset hx), h9⟩
  split
  · exact ⟨h1, (by dsimp only; omega), (by dsimp only; omega), h4, (by dsimp only; omega), by have := setL_len l.xs (iX l c) c.mirror; show (setL _ _ _).length ≤ _; omega, h7, h8, fun x hx => (setL_mem hx).elim (h9 x) (fun e => e ▸ hc.2)⟩
  split
  · exact ⟨h1, (by dsimp only; omega), (by dsimp only; omega), h4, (by dsimp only; omega), by have := (cutI_sub l.xs (iX l c)).length_le; show (cutI _ _).length ≤ _; omega, h7, h8, fun x hx => h9 x ((cutI_sub _ _).subset hx)⟩
  split
  · exact ⟨h1, (by dsimp only; omega), (by dsimp only; omega), hr, (by dsimp only; omega), (by dsimp only; omega), hrn, h8, h9⟩
  · exact ⟨h1, by omega, by omega, h4, by omega, by omega, h7, h8, h9⟩
theorem faultsUp_nil {e : Nat → Int} {d : Int} : ∀ {n : Nat}, faultsUp e d n = [] → ∀ i, i < n → e i = 0
  | 0, _, i, hi => absurd hi (Nat.not_lt_zero _)
  | n + 1, h, i, hi => by
    unfold faultsUp at h
    obtain ⟨h1, h2⟩ := List.append_eq_nil_iff.1 h
    by_cases hin : i < n
    · exact faultsUp_nil h1 i hin
    · obtain rfl : i = n := by omega
      by_cases he : e i = 0
      · exact he
      · rw [if_neg he] at h2
        cases h2
theorem listG_ok {e : Nat → Int} {d : Int} {n most : Nat} (h : listG e d n most = []) : ∀ i, i < n → e i = 0 := by
  have hm := listG_nil h
  unfold listG at h
  rw [Nat.min_eq_left hm] at h
  exact faultsUp_nil (List.append_eq_nil_iff.1 h).1
structure CL.Good (l : CL) (d : Int) : Prop where
  ps : ∀ i, i < l.ps.length → portE l.ps (l.ps.getD i iE.zero) i = 0
  rs : ∀ i, i < l.rs.length → routeE l (l.rs.getD i eRoute.zero) i = 0
  us : ∀ i, i < l.us.length → ruleE l (l.us.getD i eRule.zero) i = 0
  ms : ∀ i, i < l.ms.length → meterE l (l.ms.getD i eMeterConf.zero) i = 0
  xs : ∀ i, i < l.xs.length → mirrorE l (l.xs.getD i eMirrorConf.zero) i = 0
  d : defBad d = false
theorem may_good {l : CL} {d : Int} (h : mayB l d = true) : l.Good d := by
  unfold mayB checkF thingsF at h
  have h0 := List.append_eq_nil_iff.1 (of_decide_eq_true h)
  have e5 := List.append_eq_nil_iff.1 h0.1
  have e4 := List.append_eq_nil_iff.1 e5.1
  have e3 := List.append_eq_nil_iff.1 e4.1
  have e2 := List.append_eq_nil_iff.1 e3.1
  have e1 := List.append_eq_nil_iff.1 e2.1
  refine ⟨listG_ok e1.2, listG_ok e2.2, listG_ok e3.2, listG_ok e4.2, listG_ok e5.2, ?_⟩
  cases hd : defBad d with
  | false => rfl
  | true => rw [hd, if_pos rfl] at h0; exact absurd h0.2 (by simp)
theorem ports_up {ps : List Int} (h : ∀ i, i < ps.length → portE ps (ps.getD i iE.zero) i = 0) : ps.Pairwise (· < ·) := by
  have hz : ∀ i, i + 1 < ps.length → ps.getD i 0 < ps.getD (i + 1) 0 := fun i hi => by
    have h1 := h (i + 1) hi
    unfold portE at h1
    split at h1
    · cases h1
    · split at h1
      · cases h1
      · rename_i h2
        have e : (((i + 1 : Nat) : Int) - 1).toNat = i := by omega
        rw [e] at h2
        have e2 : (iE.zero : Int) = 0 := rfl
        rw [e2] at h2
        omega
  have hall : ∀ d i : Nat, i + 1 + d < ps.length → ps.getD i 0 < ps.getD (i + 1 + d) 0 := by
    intro d
    induction d with
    | zero => exact fun i hi => hz i hi
    | succ d ih =>
      intro i hi
      have h1 := ih i (by omega)
      have h2 := hz (i + 1 + d) (by omega)
      have e : i + 1 + (d + 1) = i + 1 + d + 1 := by omega
      rw [e]
      omega
  rw [List.pairwise_iff_getElem]
  intro i j hi hj hij
  have := hall (j - i - 1) i (by omega)
  have e : i + 1 + (j - i - 1) = j := by omega
  rw [e] at this
  simpa [List.getD, hi, hj] using this
theorem may_way {l : CL} {d : Int} (h : mayB l d = true) (hn : l.Names) : l.Way 0 := by
  obtain ⟨h1, h2, h3, h4, h5⟩ := may_lens h
  exact ⟨ports_up (may_good h).ps, by omega, by omega, by omega, by omega, by omega, hn⟩
structure ChsAt (w : World) (cs : List SChange) (rls : List (List SRule)) : Prop where
  sl : ∀ i, i < cs.length → IsSl eRule w (cs.getD i eChange.zero).rules.v (rls.getD i [])
structure ChsOK (cs : List SChange) (rls : List (List SRule)) : Prop where
  n : cs.length ≤ 1000000
  nm : ∀ i, i < cs.length → (cs.getD i eChange.zero).meter.name.size ≤ 9223372036854775807 ∧ (cs.getD i eChange.zero).mirror.name.size ≤ 9223372036854775807
  len : ∀ i, i < cs.length → (rls.getD i []).length * 152 ≤ 140737488355328
  rn : ∀ i, i < cs.length → ∀ x ∈ rls.getD i [], x.name.size ≤ 9223372036854775807
theorem ChsAt.keep0 {w w' : World} {cs : List SChange} {rls : List (List SRule)} (h : ChsAt w cs rls) (k : Keeps Nope w w') : ChsAt w' cs rls := ⟨fun i hi => (h.sl i hi).keep0 k⟩
theorem goN_step {s t : CD} {cs : List SChange} {rls : List (List SRule)} {i : Int} (hi : 0 ≤ i) (h : goN s cs rls i.toNat = some t) (hb : changeB t.l (cs.getD i.toNat eChange.zero) = true) : goN s cs rls (i + 1).toNat = some ⟨changeL t.l (cs.getD i.toNat eChange.zero) (rls.getD i.toNat []), changeD t.d (cs.getD i.toNat eChange.zero)⟩ := by
  have e : (i + 1).toNat = i.toNat + 1 := by omega
  rw [e, goN, h]
  simp only [hb, if_true]
theorem goN_stop {s t : CD} {cs : List SChange} {rls : List (List SRule)} {i : Int} (hi : 0 ≤ i ∧ i < cs.length) (h : goN s cs rls i.toNat = some t) (hb : changeB t.l (cs.getD i.toNat eChange.zero) = false) : goN s cs rls cs.length = none := by
  refine goN_none (n := i.toNat + 1) ?_ _ (by omega)
  rw [goN, h]
  simp only [hb, Bool.false_eq_true, if_false]
theorem applyC_bad {s : CD} {cs : List SChange} {rls : List (List SRule)} (h : mayB s.l s.d = false) : applyC s cs rls = (210, ⟨⟨[], [], [], [], []⟩, 0⟩) := by
  unfold applyC
  rw [h]
  rfl
theorem applyC_stop {s : CD} {cs : List SChange} {rls : List (List SRule)} (h : mayB s.l s.d = true) (hg : goN s cs rls cs.length = none) : applyC s cs rls = (211, ⟨⟨[], [], [], [], []⟩, 0⟩) := by
  unfold applyC
  rw [h, hg]
  rfl
theorem applyC_no {s t : CD} {cs : List SChange} {rls : List (List SRule)} (h : mayB s.l s.d = true) (hg : goN s cs rls cs.length = some t) (h2 : mayB t.l t.d = false) : applyC s cs rls = (210, ⟨⟨[], [], [], [], []⟩, 0⟩) := by
  unfold applyC
  rw [h, hg]
  simp only [h2, if_true]
  rfl
theorem applyC_ok {s t : CD} {cs : List SChange} {rls : List (List SRule)} (h : mayB s.l s.d = true) (hg : goN s cs rls cs.length = some t) (h2 : mayB t.l t.d = true) : applyC s cs rls = (0, t) := by
  unfold applyC
  rw [h, hg]
  simp only [h2, if_true]
def nilCB : CB := ⟨nilSl, nilSl, nilSl, nilSl, nilSl⟩
theorem en16 : Gx.Enters Tryz.prog 16 := Gx.Enters.mk' (by kernel_rfl)
theorem en92 : Gx.Enters Tryz.prog 92 := Gx.Enters.mk' (by kernel_rfl)
theorem apply_ok (c : SConf) (l : CL) (u : Value) (cs : List SChange) (rls : List (List SRule)) (w : World) (hc : ConfAt w c l) (hn : l.Names) (hz : l.n ≤ 4611686018427387904) (hu : IsSl eChange w u cs) (hcs : ChsAt w cs rls) (hok : ChsOK cs rls) : Calls Tryz.prog 27 #[eConf.val c, u] w (RetN w (fun _ : CB => True) (fun x => .tuple #[eConf.val (x.c (applyC ⟨l, c.default⟩ cs rls).2.d), I (applyC ⟨l, c.default⟩ cs rls).1]) (fun x => x.R (applyC ⟨l, c.default⟩ cs rls).2.l)) := by
  have hle := hu.le
  refine en0 31 Tryz.func27 ?_
  refine sg (cons (box (E := eConf) (.t rfl) (fun b1 => ?_)))
  refine cons (alloc z28 (fun b2 => ?_))
  refine co (Ev.assign (.c (v := I 0) rfl)) ?_
  refine nP (seq (sg (co (Ev.ldx c ty28 (.t rfl) (Lens.id _)) ?_)))
  refine cons (callv en15 (.cons (.t rfl) .nil) (fun w I => may_ok c l w (hc.keep0 I.keeps) hn hz) ?_)
  refine co (Ev.not (.t rfl)) ?_
  refine nP ?_
  first | refine condD rfl (fun h0 => ?_) (fun h0 => ?_) | refine cond rfl (fun h0 => ?_) (fun h0 => ?_)
  · have hmay : mayB l c.default = false := by simpa using h0
    refine seq (takeNil iE 3 ?_)
    refine takeNil eRoute 52 ?_
    refine takeNil eRule 76 ?_
    refine takeNil eMeterConf 57 ?_
    refine takeNil eMirrorConf 59 ?_
    refine region (co (Ev.buildS (fs := _) (places := [(0, 1), (1, 1), (2, 1), (3, 1), (4, 1), (5, 1)]) z28 rfl Tryz.underlying28 (by kernel_rfl) .nil Fills.nil) ?_)
    refine cons (stv ty28 (Lens.id _) (.t rfl) (.t rfl) ?_)
    refine co (Ev.assign (.c (v := I 210) rfl)) ?_
    refine nP (ret (pR (done rfl (.cell rfl (fun w I => run_loadVar_pts ty28 (ptsVar (by repeat first | exact mH | apply mT | apply mA) (Lens.id _) w I)) (.tmp rfl .nil)) (fun w I => ?_))))
    refine retNP nilCB trivial ?_ ?_ w I
    · rw [(applyC_bad (s := ⟨l, c.default⟩) hmay)]; rfl
    · rw [(applyC_bad (s := ⟨l, c.default⟩) hmay)]; exact (by repeat first | exact SubP.nil | refine SubP.cons (by repeat first | exact Rem.head | apply Rem.tail) ?_)
  · have hmay : mayB l c.default = true := by simpa using h0
    have hlens := may_lens hmay
    have hsm : l.Small := ⟨by omega, by omega, by omega, by omega, by omega⟩
    have hway0 := may_way hmay hn
    refine skip (pN (sg (co (Ev.ldx c ty28 (.t rfl) (Lens.id _)) ?_)))
    refine cons (calln (X := CB) (fun _ => True) (fun x => eConf.val (x.c c.default)) (fun x => x.R l) en16 (.cons (.t rfl) .nil) (fun w I => copy_ok c l w (hc.keep0 I.keeps) hsm) (fun x0 _ => ?_))
    refine cons (alloc z28 (fun b3 => ?_))
    refine cons (stv ty28 (Lens.id _) (.t rfl) (.t rfl) ?_)
    refine nP (seq (seq (sepsIn (r := Var b3 eConf (x0.c c.default) 28) (l := [OwnS x0.o1.v iE l.ps 3, OwnS x0.o2.v eRoute l.rs 52, OwnS x0.o3.v eRule l.us 76, OwnS x0.o4.v eMeterConf l.ms 57, OwnS x0.o5.v eMirrorConf l.xs 59]) (M := [Var b2 eConf eConf.zero 28, Var b1 eConf c 28]) (by repeat first | exact SubP.nil | refine SubP.cons (by repeat first | exact Rem.head | apply Rem.tail) ?_) ?_)))
    refine region (mv rfl (co (Ev.len Tryz.underlying41 (.t rfl) (by first | exact isSl_own (by repeat first | exact mH | apply mT | apply mA) | exact fun w I => IsSl.keep0 (by assumption) I.keeps)) ?_))
    refine co (Ev.move (.c (v := I 0) rfl)) ?_
    refine nP (block (lp (X := Int × CB × CD) (fun x : Int × CB × CD => (0 ≤ x.1 ∧ x.1 ≤ cs.length) ∧ (goN ⟨l, c.default⟩ cs rls x.1.toNat = some x.2.2) ∧ (x.2.2.l.Way x.1.toNat)) (fun x : Int × CB × CD => [(2, true, .pointer (some ⟨b1, 0, none⟩)), (4, true, .pointer (some ⟨b2, 0, none⟩)), (6, true, .pointer (some ⟨b3, 0, none⟩)), (15, true, u), (16, true, I cs.length), (17, true, I x.1)]) (fun x : Int × CB × CD => [CR b3 x.2.1 x.2.2.l x.2.2.d, Var b2 eConf eConf.zero 28, Var b1 eConf c 28]) (fun x : Int × CB × CD => ((cs.length : Int) - x.1).toNat) (0, x0, ⟨l, c.default⟩) ⟨?_, ?_, ?_⟩ (fun x hx => ?_)))
    · omega
    · rfl
    · exact hway0
    obtain ⟨i, y, t⟩ := x
    obtain ⟨hi, hgo, hway⟩ : (0 ≤ i ∧ i ≤ cs.length) ∧ (goN ⟨l, c.default⟩ cs rls i.toNat = some t) ∧ (t.l.Way i.toNat) := hx
    show Sat _ _ [(2, true, .pointer (some ⟨b1, 0, none⟩)), (4, true, .pointer (some ⟨b2, 0, none⟩)), (6, true, .pointer (some ⟨b3, 0, none⟩)), (15, true, u), (16, true, I cs.length), (17, true, I i)] [CR b3 y t.l t.d, Var b2 eConf eConf.zero 28, Var b1 eConf c 28]
    have hcn := hok.n
    refine sg (co (Ev.lss_i (.t rfl) (.t rfl)) ?_)
    refine nP (seq ?_)
    first | refine condD rfl (fun h1 => ?_) (fun h1 => ?_) | refine cond rfl (fun h1 => ?_) (fun h1 => ?_)
    · try simp only [nb] at h1
      refine skip (pN (seq (block (sg (co (Ev.indexAddr Tryz.underlying41 ty61 (.t rfl) (.t rfl) (fun w I => hu.keep0 I.keeps) (fun _ => by omega)) ?_)))))
      refine co (Ev.loadS0 ty61 (.t rfl) (fun w I => hu.keep0 I.keeps) (fun _ => by omega)) ?_
      refine cons (alloc z61 (fun b4 => ?_))
      refine cons (stv ty61 (Lens.id _) (.t rfl) (.t rfl) ?_)
      refine nP (sg (co (Ev.ldv ty61 (.t rfl) (Lens.id _)) ?_))
      refine cons (callr (X := CB) (r := CR b3 y t.l t.d) (r' := fun x2 => CR b3 x2 (changeL t.l (cs.getD i.toNat eChange.zero) (rls.getD i.toNat [])) (changeD t.d (cs.getD i.toNat eChange.zero))) (fun _ => True) (fun _ => .bool (changeB t.l (cs.getD i.toNat eChange.zero))) (fun _ => by repeat first | exact Upd.head | apply Upd.tail | apply Upd.right) (by repeat first | exact mH | apply mT | apply mA) en92 (.cons (.t rfl) (.cons (.t rfl) .nil)) (fun w I => change_ok b3 y t.l t.d (cs.getD i.toNat eChange.zero) (rls.getD i.toNat []) w (am w I) (fun w1 k1 => (hcs.sl i.toNat (by omega)).keep0 (I.but (by repeat first | exact Rem.head | apply Rem.tail) k1).keeps) hway.up ⟨by have := hway.ps; omega, by have := hway.rs; omega, by have := hway.ms; omega, by have := hway.xs; omega⟩ (hok.len i.toNat (by omega))) (fun x2 _ => ?_))
      refine co (Ev.not (.t rfl)) ?_
      refine nP ?_
      first | refine condD rfl (fun h2 => ?_) (fun h2 => ?_) | refine cond rfl (fun h2 => ?_) (fun h2 => ?_)
      · have hcb : changeB t.l (cs.getD i.toNat eChange.zero) = false := by simpa using h2
        have hstop := goN_stop (by omega) hgo hcb
        refine seq (takeNil iE 3 ?_)
        refine takeNil eRoute 52 ?_
        refine takeNil eRule 76 ?_
        refine takeNil eMeterConf 57 ?_
        refine takeNil eMirrorConf 59 ?_
        refine region (co (Ev.buildS (fs := _) (places := [(0, 1), (1, 1), (2, 1), (3, 1), (4, 1), (5, 1)]) z28 rfl Tryz.underlying28 (by kernel_rfl) .nil Fills.nil) ?_)
        refine cons (stv ty28 (Lens.id _) (.t rfl) (.t rfl) ?_)
        refine co (Ev.assign (.c (v := I 211) rfl)) ?_
        refine nP (ret (bR (pR (pR (bR (pR (done rfl (.cell rfl (fun w I => run_loadVar_pts ty28 (ptsVar (by repeat first | exact mH | apply mT | apply mA) (Lens.id _) w I)) (.tmp rfl .nil)) (fun w I => ?_))))))))
        refine retNP nilCB trivial ?_ ?_ w I
        · rw [(applyC_stop (s := ⟨l, c.default⟩) hmay hstop)]; rfl
        · rw [(applyC_stop (s := ⟨l, c.default⟩) hmay hstop)]; exact (by repeat first | exact SubP.nil | refine SubP.cons (by repeat first | exact Rem.head | apply Rem.tail) ?_)
      · have hcb : changeB t.l (cs.getD i.toNat eChange.zero) = true := by simpa using h2
        have hst := goN_step hi.1 hgo hcb
        refine skip (bN (pN (region (co (Ev.add_i (.t rfl) (.c (v := I 1) rfl) (fun _ => by omega)) ?_))))
        refine mv rfl (nP (nx (X := Int × CB × CD) (i + 1, _, ⟨_, _⟩) ⟨?_, ?_, ?_⟩ ?_))
        · try dsimp only
          omega
        · try dsimp only
          exact hst
        · try dsimp only
          have e : (i + 1).toNat = i.toNat + 1 := by omega
          rw [e]
          exact change_way hway (hok.nm i.toNat (by omega)) (hok.len i.toNat (by omega)) (hok.rn i.toNat (by omega))
        · try dsimp only
          omega
    · try simp only [nb] at h1
      refine exit (pX (pX (bX (pN (seq (seq ?_))))))
      have hgoc : goN ⟨l, c.default⟩ cs rls cs.length = some t := by
        have e : i.toNat = cs.length := by omega
        rw [← e]; exact hgo
      refine sepsOut (by repeat first | exact Rem.head | apply Rem.tail) ?_
      refine region (co (Ev.ldv ty28 (.t rfl) (Lens.id _)) ?_)
      refine cons (callv en15 (.cons (.t rfl) .nil) (fun w I => may_ok (y.c t.d) t.l w (co5 (x := y) (l := t.l) w I) hway.nm (by have := hway.ps; have := hway.rs; have := hway.us; have := hway.ms; have := hway.xs; unfold CL.n; omega)) ?_)
      refine co (Ev.not (.t rfl)) ?_
      refine nP ?_
      first | refine condD rfl (fun h3 => ?_) (fun h3 => ?_) | refine cond rfl (fun h3 => ?_) (fun h3 => ?_)
      · have hm2 : mayB t.l t.d = false := by simpa [CB.c] using h3
        refine seq (takeNil iE 3 ?_)
        refine takeNil eRoute 52 ?_
        refine takeNil eRule 76 ?_
        refine takeNil eMeterConf 57 ?_
        refine takeNil eMirrorConf 59 ?_
        refine region (co (Ev.buildS (fs := _) (places := [(0, 1), (1, 1), (2, 1), (3, 1), (4, 1), (5, 1)]) z28 rfl Tryz.underlying28 (by kernel_rfl) .nil Fills.nil) ?_)
        refine cons (stv ty28 (Lens.id _) (.t rfl) (.t rfl) ?_)
        refine co (Ev.assign (.c (v := I 210) rfl)) ?_
        refine nP (ret (pR (done rfl (.cell rfl (fun w I => run_loadVar_pts ty28 (ptsVar (by repeat first | exact mH | apply mT | apply mA) (Lens.id _) w I)) (.tmp rfl .nil)) (fun w I => ?_))))
        refine retNP nilCB trivial ?_ ?_ w I
        · rw [(applyC_no (s := ⟨l, c.default⟩) hmay hgoc hm2)]; rfl
        · rw [(applyC_no (s := ⟨l, c.default⟩) hmay hgoc hm2)]; exact (by repeat first | exact SubP.nil | refine SubP.cons (by repeat first | exact Rem.head | apply Rem.tail) ?_)
      · have hm2 : mayB t.l t.d = true := by simpa [CB.c] using h3
        refine skip (pN (sg (co (Ev.ldv ty28 (.t rfl) (Lens.id _)) ?_)))
        refine cons (stv ty28 (Lens.id _) (.t rfl) (.t rfl) ?_)
        refine co (Ev.assign (.c (v := I 0) rfl)) ?_
        refine nP (ret (done rfl (.cell rfl (fun w I => run_loadVar_pts ty28 (ptsVar (by repeat first | exact mH | apply mT | apply mA) (Lens.id _) w I)) (.tmp rfl .nil)) (fun w I => ?_)))
        refine retNP y trivial ?_ ?_ w I
        · rw [applyC_ok (s := ⟨l, c.default⟩) hmay hgoc hm2]; rfl
        · rw [applyC_ok (s := ⟨l, c.default⟩) hmay hgoc hm2]; exact (by repeat first | exact SubP.nil | refine SubP.cons (by repeat first | exact Rem.head | apply Rem.tail) ?_)
def s1 (n : UInt8) : ByteArray := ⟨#[n]⟩
def bkt1 : SBucket := ⟨1, 1, 1⟩
def smallL : CL := ⟨[1, 2], [⟨⟨⟨false, (Vector.replicate 16 0).set 0 10⟩, 8⟩, 2⟩],
  [{ eRule.zero with name := s1 97, action := 2, meter := s1 109 }, { eRule.zero with name := s1 98, match_ := { eMatch.zero with asks := 8, proto := 17 }, action := 3, out := 2 }],
  [⟨s1 109, bkt1⟩, ⟨s1 110, bkt1⟩], []⟩
def smallD : CL := { smallL with ps := [1, 2, 3] }
def CHW : List SChange := [chPort 1 3, chDefault 2]
theorem w_diff (rv : OV) : diffL smallL smallD 1 2 rv = CHW := by kernel_rfl
theorem w_diffE : diffE smallL smallD 1 2 = 0 := by decide +kernel
theorem w_diffR : diffR smallL smallD 1 2 = [] := by kernel_rfl
theorem w_apply : applyC ⟨smallL, 1⟩ CHW [[], []] = (0, ⟨smallD, 2⟩) := by kernel_rfl
theorem w_check : checkF smallL 0 = [⟨2, 7⟩] := by kernel_rfl
theorem w_may : mayB smallD 2 = true := by decide +kernel
theorem w_same : sameB smallD smallD 2 2 = true := by decide +kernel
theorem w_other : sameB smallD smallL 2 1 = false := by decide +kernel
theorem names_of {l : CL} (h : l.us.all (fun x => decide (x.name.size ≤ 16)) && l.ms.all (fun x => decide (x.name.size ≤ 16)) && l.xs.all (fun x => decide (x.name.size ≤ 16)) = true) : l.Names := by
  simp only [Bool.and_eq_true, List.all_eq_true, decide_eq_true_iff] at h
  exact ⟨fun x hx => by have := h.1.1 x hx; omega, fun x hx => by have := h.1.2 x hx; omega, fun x hx => by have := h.2 x hx; omega⟩
theorem smallL_names : smallL.Names := names_of (by decide +kernel)
theorem smallD_names : smallD.Names := names_of (by decide +kernel)
theorem smallL_n : smallL.n = 7 := by decide +kernel
theorem smallD_n : smallD.n = 8 := by decide +kernel
theorem smallL_small : smallL.Small := ⟨by decide, by decide, by decide, by decide, by decide⟩
theorem smallD_small : smallD.Small := ⟨by decide, by decide, by decide, by decide, by decide⟩
theorem chw_at (w : World) : ChsAt w CHW [[], []] := ⟨fun i hi => by
  have hi : i < 2 := hi
  have h : i = 0 ∨ i = 1 := by omega
  rcases h with rfl | rfl
  · exact IsSl.nil _ w
  · exact IsSl.nil _ w⟩
theorem chw_ok : ChsOK CHW [[], []] := ⟨by decide, fun i hi => by
  have hi : i < 2 := hi
  have h : i = 0 ∨ i = 1 := by omega
  rcases h with rfl | rfl <;> decide, fun i hi => by
  have hi : i < 2 := hi
  have h : i = 0 ∨ i = 1 := by omega
  rcases h with rfl | rfl <;> decide, fun i hi => by
  have hi : i < 2 := hi
  have h : i = 0 ∨ i = 1 := by omega
  rcases h with rfl | rfl <;> simp⟩
theorem z55 : (Tryz.prog.info? 55).bind (·.zero) = some (eBucket.val eBucket.zero) := by kernel_rfl
theorem z46 : (Tryz.prog.info? 46).bind (·.zero) = some ((arrE 16 u8E).val (arrE 16 u8E).zero) := by kernel_rfl
theorem z74 : (Tryz.prog.info? 74).bind (·.zero) = some (eMatch.val eMatch.zero) := by kernel_rfl
theorem small_ok (w : World) : Calls Tryz.prog 33 #[] w (RetN w (fun _ : CB => True) (fun x => eConf.val (x.c 1)) (fun x => x.R smallL)) := by
  refine en0 19 Tryz.func33 ?_
  refine sg (cons (alloc z28 (fun b1 => ?_)))
  refine nP (seq (takeNil eMirrorConf 59 ?_))
  refine region (co (Ev.buildS (fs := _) (places := [(0, 1), (1, 1), (2, 1)]) z55 rfl Tryz.underlying55 (by kernel_rfl) (.cons (.c (v := U64 1) rfl) (.cons (.c (v := U64 1) rfl) (.cons (.c (v := U64 1) rfl) .nil))) (Fills.cons SBucket.l_num rfl (Fills.cons SBucket.l_den rfl (Fills.cons SBucket.l_burst rfl Fills.nil)))) ?_)
  refine cons (alloc z55 (fun b2 => ?_))
  refine cons (stv ty55 (Lens.id _) (.t rfl) (.t rfl) ?_)
  refine nP (sg (cons (buildSlice (E := iE) Tryz.underlying22 ty3 z3 (.cons (.c (v := I 1) rfl) (.cons (.c (v := I 2) rfl) .nil)) rfl rfl (fun v3 => ?_))))
  refine co (Ev.buildA z46 Tryz.underlying46 ty5 (.cons (.c (v := U8 10) rfl) .nil) (Fills.cons (lArr u8E 0 (by decide)) rfl Fills.nil)) ?_
  refine co (Ev.buildS (fs := _) (places := [(0, 1), (1, 16)]) z48 rfl Tryz.underlying48 (by kernel_rfl) (.cons (.t rfl) .nil) (Fills.cons SAddr.l_b rfl Fills.nil)) ?_
  refine co (Ev.buildS (fs := _) (places := [(0, 17), (17, 1)]) z50 rfl Tryz.underlying50 (by kernel_rfl) (.cons (.t rfl) (.cons (.c (v := I 8) rfl) .nil)) (Fills.cons SPrefix.l_addr rfl (Fills.cons SPrefix.l_bits rfl Fills.nil))) ?_
  refine co (Ev.buildS (fs := _) (places := [(0, 18), (18, 1)]) z52 rfl Tryz.underlying52 (by kernel_rfl) (.cons (.t rfl) (.cons (.c (v := I 2) rfl) .nil)) (Fills.cons SRoute.l_to_ rfl (Fills.cons SRoute.l_out rfl Fills.nil))) ?_
  refine cons (buildSlice (E := eRoute) Tryz.underlying23 ty52 z52 (.cons (.t rfl) .nil) rfl rfl (fun v4 => ?_))
  refine co (Ev.buildS (fs := _) (places := [(0, 1), (1, 44), (45, 1), (46, 1), (47, 1), (48, 1)]) z76 rfl Tryz.underlying76 (by kernel_rfl) (.cons (.c (v := (Go.Value.string (ByteArray.mk #[97]))) rfl) (.cons (.c (v := I 2) rfl) (.cons (.c (v := (Go.Value.string (ByteArray.mk #[109]))) rfl) .nil))) (Fills.cons SRule.l_name rfl (Fills.cons SRule.l_action rfl (Fills.cons SRule.l_meter rfl Fills.nil)))) ?_
  refine co (Ev.buildS (fs := _) (places := [(0, 1), (1, 2), (3, 18), (21, 18), (39, 1), (40, 2), (42, 2)]) z74 rfl Tryz.underlying74 (by kernel_rfl) (.cons (.c (v := U8 8) rfl) (.cons (.c (v := U8 17) rfl) .nil)) (Fills.cons SMatch.l_asks rfl (Fills.cons SMatch.l_proto rfl Fills.nil))) ?_
  refine co (Ev.buildS (fs := _) (places := [(0, 1), (1, 44), (45, 1), (46, 1), (47, 1), (48, 1)]) z76 rfl Tryz.underlying76 (by kernel_rfl) (.cons (.c (v := (Go.Value.string (ByteArray.mk #[98]))) rfl) (.cons (.t rfl) (.cons (.c (v := I 3) rfl) (.cons (.c (v := I 2) rfl) .nil)))) (Fills.cons SRule.l_name rfl (Fills.cons SRule.l_match_ rfl (Fills.cons SRule.l_action rfl (Fills.cons SRule.l_out rfl Fills.nil))))) ?_
  refine cons (buildSlice (E := eRule) Tryz.underlying24 ty76 z76 (.cons (.t rfl) (.cons (.t rfl) .nil)) rfl rfl (fun v5 => ?_))
  refine co (Ev.ldv ty55 (.t rfl) (Lens.id _)) ?_
  refine co (Ev.buildS (fs := _) (places := [(0, 1), (1, 3)]) z57 rfl Tryz.underlying57 (by kernel_rfl) (.cons (.c (v := (Go.Value.string (ByteArray.mk #[109]))) rfl) (.cons (.t rfl) .nil)) (Fills.cons SMeterConf.l_name rfl (Fills.cons SMeterConf.l_bucket rfl Fills.nil))) ?_
  refine co (Ev.ldv ty55 (.t rfl) (Lens.id _)) ?_
  refine co (Ev.buildS (fs := _) (places := [(0, 1), (1, 3)]) z57 rfl Tryz.underlying57 (by kernel_rfl) (.cons (.c (v := (Go.Value.string (ByteArray.mk #[110]))) rfl) (.cons (.t rfl) .nil)) (Fills.cons SMeterConf.l_name rfl (Fills.cons SMeterConf.l_bucket rfl Fills.nil))) ?_
  refine cons (buildSlice (E := eMeterConf) Tryz.underlying25 ty57 z57 (.cons (.t rfl) (.cons (.t rfl) .nil)) rfl rfl (fun v6 => ?_))
  refine co (Ev.buildS (fs := _) (places := [(0, 1), (1, 1), (2, 1), (3, 1), (4, 1), (5, 1)]) z28 rfl Tryz.underlying28 (by kernel_rfl) (.cons (.t rfl) (.cons (.t rfl) (.cons (.t rfl) (.cons (.t rfl) (.cons (.c (v := I 1) rfl) .nil))))) (Fills.cons SConf.l_ports rfl (Fills.cons SConf.l_routes rfl (Fills.cons SConf.l_rules rfl (Fills.cons SConf.l_meters rfl (Fills.cons SConf.l_default rfl Fills.nil)))))) ?_
  refine cons (stv ty28 (Lens.id _) (.t rfl) (.t rfl) ?_)
  refine nP (ret (done rfl (.cell rfl (fun w I => run_loadVar_pts ty28 (ptsVar (by repeat first | exact mH | apply mT | apply mA) (Lens.id _) w I)) .nil) (fun w I => ?_)))
  exact retNP (⟨v3, v4, v5, v6, nilSl⟩ : CB) trivial rfl (by repeat first | exact SubP.nil | refine SubP.cons (by repeat first | exact Rem.head | apply Rem.tail) ?_) w I
theorem diff_w (s d : CB) (w : World) (hs : ConfAt w (s.c 1) smallL) (hd : ConfAt w (d.c 2) smallD) : Calls Tryz.prog 23 #[eConf.val (s.c 1), eConf.val (d.c 2)] w (RetN w (fun _ : OV × OV => True) (fun x => .tuple #[x.1.v, I 0]) (fun x => [OwnS x.1.v eChange CHW 61, OwnS x.2.v eRule [] 76])) := by
  refine (diff_ok (s.c 1) (d.c 2) smallL smallD w hs hd smallL_names smallD_names (by rw [smallL_n]; decide) (by rw [smallD_n]; decide)).mono fun e w1 h => ?_
  obtain ⟨x, h1, h2, h3, h4⟩ := h
  refine ⟨x, h1, ?_, h3, ?_⟩
  · rw [h2]
    show Ending.returned (.tuple #[x.1.v, I (diffE smallL smallD 1 2)]) = _
    rw [w_diffE]
  · have e1 : [OwnS x.1.v eChange (diffL smallL smallD (s.c 1).default (d.c 2).default x.2) 61, OwnS x.2.v eRule (diffR smallL smallD (s.c 1).default (d.c 2).default) 76] = [OwnS x.1.v eChange CHW 61, OwnS x.2.v eRule [] 76] := by
      show [OwnS x.1.v eChange (diffL smallL smallD 1 2 x.2) 61, OwnS x.2.v eRule (diffR smallL smallD 1 2) 76] = _
      rw [w_diff, w_diffR]
    dsimp only at h4
    rw [e1] at h4
    exact h4
theorem apply_w (s : CB) (u : Value) (w : World) (hs : ConfAt w (s.c 1) smallL) (hu : IsSl eChange w u CHW) : Calls Tryz.prog 27 #[eConf.val (s.c 1), u] w (RetN w (fun _ : CB => True) (fun x => .tuple #[eConf.val (x.c 2), I 0]) (fun x => x.R smallD)) := by
  refine (apply_ok (s.c 1) smallL u CHW [[], []] w hs smallL_names (by rw [smallL_n]; decide) hu (chw_at w) chw_ok).mono fun e w1 h => ?_
  have e0 : applyC ⟨smallL, (s.c 1).default⟩ CHW [[], []] = (0, ⟨smallD, 2⟩) := w_apply
  rw [e0] at h
  exact h
theorem en33 : Gx.Enters Tryz.prog 33 := Gx.Enters.mk' (by kernel_rfl)
theorem en23 : Gx.Enters Tryz.prog 23 := Gx.Enters.mk' (by kernel_rfl)
theorem en27 : Gx.Enters Tryz.prog 27 := Gx.Enters.mk' (by kernel_rfl)
theorem en21 : Gx.Enters Tryz.prog 21 := Gx.Enters.mk' (by kernel_rfl)
def SFault.eqb (x y : SFault) : Bool := eqd x.code y.code && (eqd x.at_ y.at_ && (true))
theorem SFault.eqb_iff (x y : SFault) : SFault.eqb x y = true ↔ x = y := by
  obtain ⟨a0, a1⟩ := x
  obtain ⟨b0, b1⟩ := y
  simp only [SFault.eqb, Bool.and_eq_true, eqd_iff, eqd_iff, SFault.mk.injEq, and_true]
theorem ty35 : TyOK Tryz.prog 35 iE := TyOK.mk' (by kernel_rfl) (by kernel_rfl)
theorem eqok37 : EqOK Tryz.prog 37 eFault SFault.eqb 2 := eqok_struct (fs := _) Tryz.underlying37 (by kernel_rfl) rfl (EqF.cons (by decide) rfl SFault.l_code ty35 (eqok_i Tryz.underlying35) (EqF.cons (by decide) rfl SFault.l_at_ ty3 (eqok_i Tryz.underlying3) EqF.nil)) (fun _ _ => rfl)
instance : DecidableEq SFault := fun x y => decidable_of_iff (SFault.eqb x y = true) (SFault.eqb_iff x y)
@[simp] theorem SFault.eqb_dec (x y : SFault) : SFault.eqb x y = decide (x = y) := by
  rw [Bool.eq_iff_iff, decide_eq_true_iff]
  exact SFault.eqb_iff x y
theorem works_ok (w : World) : Calls Tryz.prog 20 #[] w (RetV w (.bool true)) := by
  refine en0 70 Tryz.func20 ?_
  refine sg (co (Ev.assign (.c (v := .bool false) rfl)) ?_)
  refine nP (sg (cons (calln (X := CB) (fun _ => True) (fun x => eConf.val (x.c 1)) (fun x => x.R smallL) en33 .nil (fun w I => small_ok w) (fun s0 _ => ?_))))
  refine cons (alloc z28 (fun b1 => ?_))
  refine cons (stv ty28 (Lens.id _) (.t rfl) (.t rfl) ?_)
  refine nP (sg (co (Ev.to (v' := eConf.val (s0.c 1)) (Ev.ldv ty28 (.t rfl) (Lens.id _)) (rfl)) ?_))
  refine cons (calln (X := CB) (fun _ => True) (fun x => eConf.val (x.c 1)) (fun x => x.R smallL) en16 (.cons (.t rfl) .nil) (fun w I => copy_ok (s0.c 1) smallL w (co5 (x := s0) (l := smallL) w I) smallL_small) (fun x1 _ => ?_))
  refine cons (alloc z28 (fun b2 => ?_))
  refine cons (stv ty28 (Lens.id _) (.t rfl) (.t rfl) ?_)
  refine nP (sg (co (fA 0 (.t rfl)) ?_))
  refine co (Ev.to (v' := x1.o1.v) (Ev.ldv ty22 (.t rfl) SConf.l_ports) (rfl)) ?_
  refine cons (buildSlice (E := iE) Tryz.underlying22 ty3 z3 (.cons (.c (v := I 3) rfl) .nil) rfl rfl (fun v3 => ?_))
  refine cons (app (E := iE) Tryz.underlying22 ty3 zb3 zs3 (.t rfl) (.t rfl) (fun v4 => ?_) (hby := ⟨by decide, by decide⟩))
  refine co (fA 0 (.t rfl)) ?_
  refine cons (stv ty22 SConf.l_ports (.t rfl) (.t rfl) ?_)
  refine nP (sg (co (fA 5 (.t rfl)) ?_))
  refine cons (stv ty3 SConf.l_default (.t rfl) (.c (v := I 2) rfl) ?_)
  refine nP (sg (co (Ev.to (v' := eConf.val (s0.c 1)) (Ev.ldv ty28 (.t rfl) (Lens.id _)) (rfl)) ?_))
  refine co (Ev.to (v' := eConf.val ((⟨v4, x1.o2, x1.o3, x1.o4, x1.o5⟩ : CB).c 2)) (Ev.ldv ty28 (.t rfl) (Lens.id _)) (rfl)) ?_
  refine cons (calln (X := OV × OV) (fun _ => True) (fun x => .tuple #[x.1.v, I 0]) (fun x => [OwnS x.1.v eChange CHW 61, OwnS x.2.v eRule [] 76]) en23 (.cons (.t rfl) (.cons (.t rfl) .nil)) (fun w I => diff_w s0 (⟨v4, x1.o2, x1.o3, x1.o4, x1.o5⟩ : CB) w (co5 (x := s0) (l := smallL) w I) (co5 (x := (⟨v4, x1.o2, x1.o3, x1.o4, x1.o5⟩ : CB)) (l := smallD) w I)) (fun d1 _ => ?_))
  refine mv rfl (co (Ev.extract (.t rfl) rfl) (co (Ev.extract (.t rfl) rfl) (asn rfl (asn rfl (nP (sg (co (Ev.to (v' := eConf.val (s0.c 1)) (Ev.ldv ty28 (.t rfl) (Lens.id _)) (rfl)) ?_)))))))
  refine mv rfl (cons (calln (X := CB) (fun _ => True) (fun x => .tuple #[eConf.val (x.c 2), I 0]) (fun x => x.R smallD) en27 (.cons (.t rfl) (.cons (.t rfl) .nil)) (fun w I => apply_w s0 _ w (co5 (x := s0) (l := smallL) w I) (io w I)) (fun a1 _ => ?_)))
  refine mv rfl (co (Ev.extract (.t rfl) rfl) (co (Ev.extract (.t rfl) rfl) (cons (alloc z28 (fun b5 => ?_)))))
  refine cons (stv ty28 (Lens.id _) (.t rfl) (.t rfl) ?_)
  refine asn rfl (nP (sg (co (fA 5 (.t rfl)) ?_)))
  refine cons (stv ty3 SConf.l_default (.t rfl) (.c (v := I 0) rfl) ?_)
  refine nP (sg (co (Ev.to (v' := eConf.val (s0.c 0)) (Ev.ldv ty28 (.t rfl) (Lens.id _)) (rfl)) ?_))
  refine cons (callo (xs := ([⟨2, 7⟩] : List SFault)) en12 (.cons (.t rfl) .nil) (fun w I => by have h := conf_check (s0.c 0) smallL w (co5 (x := s0) (l := smallL) w I) smallL_names (by rw [smallL_n]; decide); rw [show checkF smallL (s0.c 0).default = ([⟨2, 7⟩] : List SFault) from w_check] at h; exact h) (fun f1 => ?_))
  refine asn rfl (nP (seq (draw' (by kernel_rfl) ?_)))
  refine tk 0 rfl (Ev.move (.t rfl)) ?_
  refine tk 1 rfl (Ev.to (v' := .bool true) (Ev.eql_i (.t rfl) (.c (v := I 0) rfl)) (congrArg Value.bool (by decide +kernel))) ?_
  refine tk 2 rfl (Ev.move (.t rfl)) ?_
  refine tkg 3 rfl rfl rfl (Ev.move (.t rfl)) ?_
  refine tkg 4 rfl rfl rfl (Ev.to (v' := .bool true) (Ev.eql_i (.g rfl id) (.c (v := I 0) rfl)) (congrArg Value.bool (by decide +kernel))) ?_
  refine tk 5 rfl (Ev.to (v' := .bool true) (Ev.pkA (.t rfl) rfl) (rfl)) ?_
  refine tk 6 rfl (Ev.move (.t rfl)) ?_
  refine tkg 7 rfl rfl rfl (Ev.move (.t rfl)) ?_
  refine tkg 8 rfl rfl rfl (Ev.len Tryz.underlying41 (.g rfl id) (by first | exact isSl_own (by repeat first | exact mH | apply mT | apply mA) | exact fun w I => IsSl.keep0 (by assumption) I.keeps)) ?_
  refine tkg 9 rfl rfl rfl (Ev.to (v' := .bool true) (Ev.eql_i (.g rfl id) (.c (v := I 2) rfl)) (congrArg Value.bool (by decide +kernel))) ?_
  refine tk 10 rfl (Ev.to (v' := .bool true) (Ev.pkA (.t rfl) rfl) (rfl)) ?_
  refine tk 11 rfl (Ev.move (.t rfl)) ?_
  refine tkg 12 rfl rfl rfl (Ev.to (v' := eConf.val (a1.c 2)) (Ev.ldv ty28 (.t rfl) (Lens.id _)) (rfl)) ?_
  refine tkg 13 rfl rfl rfl (Ev.to (v' := eConf.val ((⟨v4, x1.o2, x1.o3, x1.o4, x1.o5⟩ : CB).c 2)) (Ev.ldv ty28 (.t rfl) (Lens.id _)) (rfl)) ?_
  refine al1 14 rfl ((callg rfl rfl en21 (.cons (.g rfl id) (.cons (.g rfl id) .nil)) (fun hg w I => same_ok (a1.c 2) ((⟨v4, x1.o2, x1.o3, x1.o4, x1.o5⟩ : CB).c 2) smallD smallD w (co5 (x := a1) (l := smallD) w I) (co5 (x := (⟨v4, x1.o2, x1.o3, x1.o4, x1.o5⟩ : CB)) (l := smallD) w I) smallD_small smallD_small) ?_))
  refine hdn (tk 15 rfl (Ev.to (v' := .bool true) (Ev.pkA (.t rfl) rfl) (congrArg Value.bool w_same)) ?_)
  refine tk 16 rfl (Ev.move (.t rfl)) ?_
  refine tkg 17 rfl rfl rfl (Ev.to (v' := eConf.val (a1.c 2)) (Ev.ldv ty28 (.t rfl) (Lens.id _)) (rfl)) ?_
  refine al1 18 rfl ((opgT rfl rfl rfl ?_))
  refine (calln (X := CB) (fun _ => True) (fun x => eConf.val (x.c 1)) (fun x => x.R smallL) en33 .nil (fun w I => small_ok w) (fun s2 _ => ?_))
  refine hdn (al1 19 rfl ((callg rfl rfl en21 (.cons (.g rfl id) (.cons (.t rfl) .nil)) (fun hg w I => same_ok (a1.c 2) (s2.c 1) smallD smallL w (co5 (x := a1) (l := smallD) w I) (co5 (x := s2) (l := smallL) w I) smallD_small smallL_small) ?_)))
  refine hdn (tkg 20 rfl rfl rfl (Ev.to (v' := .bool true) (Ev.not (.g rfl id)) (congrArg Value.bool (by show (!sameB smallD smallL 2 1) = true; rw [w_other]; rfl))) ?_)
  refine tk 21 rfl (Ev.to (v' := .bool true) (Ev.pkA (.t rfl) rfl) (rfl)) ?_
  refine tk 22 rfl (Ev.move (.t rfl)) ?_
  refine tkg 23 rfl rfl rfl (Ev.to (v' := eConf.val ((⟨v4, x1.o2, x1.o3, x1.o4, x1.o5⟩ : CB).c 2)) (Ev.ldv ty28 (.t rfl) (Lens.id _)) (rfl)) ?_
  refine al1 24 rfl ((callg rfl rfl en15 (.cons (.g rfl id) .nil) (fun hg w I => may_ok ((⟨v4, x1.o2, x1.o3, x1.o4, x1.o5⟩ : CB).c 2) smallD w (co5 (x := (⟨v4, x1.o2, x1.o3, x1.o4, x1.o5⟩ : CB)) (l := smallD) w I) smallD_names (by rw [smallD_n]; decide)) ?_))
  refine hdn (tk 25 rfl (Ev.to (v' := .bool true) (Ev.pkA (.t rfl) rfl) (congrArg Value.bool w_may)) ?_)
  refine tk 26 rfl (Ev.move (.t rfl)) ?_
  refine tkg 27 rfl rfl rfl (Ev.move (.t rfl)) ?_
  refine tkg 28 rfl rfl rfl (Ev.len Tryz.underlying31 (.g rfl id) (by first | exact isSl_own (by repeat first | exact mH | apply mT | apply mA) | exact fun w I => IsSl.keep0 (by assumption) I.keeps)) ?_
  refine tkg 29 rfl rfl rfl (Ev.to (v' := .bool true) (Ev.eql_i (.g rfl id) (.c (v := I 1) rfl)) (congrArg Value.bool (by decide +kernel))) ?_
  refine tk 30 rfl (Ev.to (v' := .bool true) (Ev.pkA (.t rfl) rfl) (rfl)) ?_
  refine tk 31 rfl (Ev.move (.t rfl)) ?_
  refine tkg 32 rfl rfl rfl (Ev.move (.t rfl)) ?_
  refine tkg 33 rfl rfl rfl (Ev.indexAddr Tryz.underlying31 ty37 (.g rfl id) (.c (v := I 0) rfl) (by first | exact isSl_own (by repeat first | exact mH | apply mT | apply mA) | exact fun w I => IsSl.keep0 (by assumption) I.keeps) (fun _ => by decide)) ?_
  refine tkg 34 rfl rfl rfl (Ev.loadS0 (i := 0) ty37 (.g rfl id) (by first | exact isSl_own (by repeat first | exact mH | apply mT | apply mA) | exact fun w I => IsSl.keep0 (by assumption) I.keeps) (fun _ => by decide)) ?_
  refine tkg 35 rfl rfl rfl (Ev.buildS (fs := _) (places := [(0, 1), (1, 1)]) z37 rfl Tryz.underlying37 (by kernel_rfl) (.cons (.c (v := I 2) rfl) (.cons (.c (v := I 7) rfl) .nil)) (Fills.cons SFault.l_code rfl (Fills.cons SFault.l_at_ rfl Fills.nil))) ?_
  refine tkg 36 rfl rfl rfl (Ev.to (v' := .bool true) (Ev.eqlS rfl eqok37 rfl (by kernel_rfl) (.g rfl id) (.g rfl id)) (congrArg Value.bool (by decide +kernel))) ?_
  refine tk 37 rfl (Ev.to (v' := .bool true) (Ev.pkA (.t rfl) rfl) (rfl)) ?_
  refine tk 38 rfl (Ev.assign (.t rfl)) ?_
  refine ovr (pN (ret (done rfl (.tmp rfl .nil) (retE ?_))))
  rfl
theorem find_first {α κ : Type} {q : κ → κ → Bool} (hi : ∀ x y, q x y = true ↔ x = y) (f : α → κ) (l : List α) (k : κ) : ∀ n, n ≤ l.length → findV q k (firstN q f l n) = ((l.take n).findIdx? (fun x => q (f x) k)).map (fun i : Nat => (i : Int))
  | 0, _ => by simp [firstN, findV, findL]
  | n + 1, h => by
    have hlt : n < l.length := by omega
    have ih := find_first hi f l k n (by omega)
    have ihx := find_first hi f l (f l[n]) n (by omega)
    have e : l[n]? = some l[n] := List.getElem?_eq_getElem hlt
    have hlen : (l.take n).length = n := by simp; omega
    rw [firstN, e, List.take_succ_eq_append_getElem hlt, List.findIdx?_append]
    simp only
    cases hs : (findV q (f l[n]) (firstN q f l n)).isSome with
    | true =>
      rw [if_pos rfl, ih]
      cases hk : (l.take n).findIdx? (fun x => q (f x) k) with
      | some i => simp
      | none =>
        have hq : q (f l[n]) k = false := by
          rw [Bool.eq_false_iff]
          intro hq
          have e2 := (hi _ _).1 hq
          subst e2
          rw [ihx, hk] at hs
          cases hs
        simp [List.findIdx?_cons, hq]
    | false =>
      rw [if_neg Bool.false_ne_true, findV_put hi]
      have hn : (l.take n).findIdx? (fun x => q (f x) (f l[n])) = none := by
        rw [ihx] at hs
        cases h2 : (l.take n).findIdx? (fun x => q (f x) (f l[n])) with
        | none => rfl
        | some i => rw [h2] at hs; cases hs
      by_cases hq : q k (f l[n]) = true
      · have e2 := (hi _ _).1 hq
        subst e2
        rw [if_pos hq, hn]
        simp [List.findIdx?_cons, hq, hlen]
      · rw [if_neg hq, ih]
        have hq2 : q (f l[n]) k = false := by
          rw [Bool.eq_false_iff]
          intro h2
          exact hq ((hi _ _).2 ((hi _ _).1 h2).symm)
        cases hk : (l.take n).findIdx? (fun x => q (f x) k) <;> simp [List.findIdx?_cons, hq2]
theorem find_all {α κ : Type} {q : κ → κ → Bool} (hi : ∀ x y, q x y = true ↔ x = y) (f : α → κ) (l : List α) (k : κ) : findV q k (firstN q f l l.length) = (l.findIdx? (fun x => q (f x) k)).map (fun i : Nat => (i : Int)) := by
  rw [find_first hi f l k _ (Nat.le_refl _), List.take_length]
theorem find_idx {α κ : Type} {q : κ → κ → Bool} (hi : ∀ x y, q x y = true ↔ x = y) (f : α → κ) (l : List α) (k : κ) : (findV q k (firstN q f l l.length)).isSome = decide (¬ idxF (fun x => q (f x) k) l < 0) := by
  rw [find_all hi]
  unfold idxF
  cases l.findIdx? (fun x => q (f x) k) with
  | none => rfl
  | some i => simp
theorem find_at {α κ : Type} {q : κ → κ → Bool} (hi : ∀ x y, q x y = true ↔ x = y) (f : α → κ) (l : List α) (z : α) (i : Nat) (h : i < l.length) : (findV q (f (l.getD i z)) (firstN q f l l.length)).getD 0 = idxF (fun x => q (f x) (f (l.getD i z))) l := by
  rw [find_all hi]
  unfold idxF
  cases hk : l.findIdx? (fun x => q (f x) (f (l.getD i z))) with
  | some j => rfl
  | none =>
    have := List.findIdx?_eq_none_iff.1 hk (l.getD i z) (getD_in _ _ _ h)
    rw [(hi _ _).2 rfl] at this
    cases this
theorem eqs_dec (x y : ByteArray) : eqs x y = decide (x = y) := by
  rw [Bool.eq_iff_iff, decide_eq_true_iff]
  exact eqs_iff x y
def nameU (c : UInt8) (i : Int) : Bool := (decide (97 ≤ c) && decide (c ≤ 122)) || (!decide (i = 0) && (((decide (48 ≤ c) && decide (c ≤ 57)) || decide (c = 45)) || decide (c = 95)))
def rooms : List Int := [2, 4, 8, 16, 32, 64, 128, 256, 512, 1024]
def szK (l : CL) (k : Nat) : Nat := [l.ps.length, l.rs.length, l.us.length, l.ms.length, l.xs.length].getD k 0
def limK (k : Nat) : Nat := [256, 1024, 256, 64, 16].getD k 0
def thingE (l : CL) (k i : Nat) : Int := if k = 0 then portE l.ps (l.ps.getD i iE.zero) i else if k = 1 then routeE l (l.rs.getD i eRoute.zero) i else if k = 2 then ruleE l (l.us.getD i eRule.zero) i else if k = 3 then meterE l (l.ms.getD i eMeterConf.zero) i else mirrorE l (l.xs.getD i eMirrorConf.zero) i
def baseK (l : CL) : Nat → Int
  | 0 => 0
  | k + 1 => baseK l k + (szK l k : Int)
def kindsF (l : CL) : Nat → List SFault
  | 0 => []
  | k + 1 => kindsF l k ++ listG (thingE l k) (baseK l k) (szK l k) (limK k)
def mkRo : SRoute := { eRoute.zero with out := 777 }
def mkRu : SRule := { eRule.zero with out := 777 }
def mkMe : SMeterConf := { eMeterConf.zero with name := ⟨#[55, 55, 55]⟩ }
def mkMi : SMirrorConf := { eMirrorConf.zero with out := 777 }
def markL (l : CL) : CL := ⟨l.ps ++ [(777 : Int)], l.rs ++ [mkRo], l.us ++ [mkRu], l.ms ++ [mkMe], l.xs ++ [mkMi]⟩
def takeC (l : CL) (n : Nat) : CL := ⟨l.ps.take n, l.rs.take n, l.us.take n, l.ms.take n, l.xs.take n⟩
def subC (x : CB) (l : CL) : CB := ⟨OV.sub iE.size x.o1 0 l.ps.length, OV.sub eRoute.size x.o2 0 l.rs.length, OV.sub eRule.size x.o3 0 l.us.length, OV.sub eMeterConf.size x.o4 0 l.ms.length, OV.sub eMirrorConf.size x.o5 0 l.xs.length⟩
theorem take_mark {α : Type} (l : List α) (x : α) : (l ++ [x]).take l.length = l := List.take_left
theorem isSl_mark {α : Type} {E : Enc α} {w : World} {v : Value} {l : List α} {x : α} (h : IsSl E w v (l ++ [x])) : IsSl E w (subS E.size v 0 l.length) l := by
  have := h.sub (l := 0) (k := l.length) (by omega) (by simp)
  rwa [take_mark, List.drop_zero] at this
theorem ConfAt.sub {w : World} {x : CB} {l : CL} {d : Int} (h : ConfAt w (x.c d) (markL l)) : ConfAt w ((subC x l).c d) l := ⟨isSl_mark h.ps, isSl_mark h.rs, isSl_mark h.us, isSl_mark h.ms, isSl_mark h.xs⟩
abbrev OC (x : CB) (l : CL) : Res := Seps (OwnS x.o1.v iE l.ps 3) [OwnS x.o2.v eRoute l.rs 52, OwnS x.o3.v eRule l.us 76, OwnS x.o4.v eMeterConf l.ms 57, OwnS x.o5.v eMirrorConf l.xs 59]
theorem put_mem {α β : Type} {q : α → α → Bool} (k : α) (v : β) : ∀ (l : List (α × β)) (p : α × β), p ∈ putL q k v l → p.1 = k ∨ ∃ p' ∈ l, p'.1 = p.1
  | [], p, h => by
    unfold putL at h
    exact .inl (by rw [List.mem_singleton.1 h])
  | e :: l, p, h => by
    unfold putL at h
    split at h
    · rcases List.mem_cons.1 h with rfl | h
      · exact .inl rfl
      · exact .inr ⟨p, List.mem_cons_of_mem _ h, rfl⟩
    · rcases List.mem_cons.1 h with rfl | h
      · exact .inr ⟨p, List.mem_cons_self, rfl⟩
      · rcases put_mem k v l p h with h | ⟨p', h1, h2⟩
        · exact .inl h
        · exact .inr ⟨p', List.mem_cons_of_mem _ h1, h2⟩
def Uniq {α β : Type} (q : α → α → Bool) (l : List (α × β)) : Prop := l.Pairwise (fun a b => q a.1 b.1 = false)
theorem put_uniq {α β : Type} {q : α → α → Bool} (hi : ∀ x y, q x y = true ↔ x = y) (k : α) (v : β) : ∀ l : List (α × β), Uniq q l → Uniq q (putL q k v l)
  | [], _ => by
    unfold putL Uniq
    exact List.pairwise_singleton _ _
  | e :: l, h => by
    obtain ⟨h1, h2⟩ := List.pairwise_cons.1 h
    unfold putL
    split
    · rename_i hq
      have e2 := (hi _ _).1 hq
      exact List.pairwise_cons.2 ⟨fun b hb => by show q k b.1 = false; rw [e2]; exact h1 b hb, h2⟩
    · rename_i hq
      refine List.pairwise_cons.2 ⟨fun b hb => ?_, put_uniq hi k v l h2⟩
      rcases put_mem k v l b hb with h3 | ⟨p', h3, h4⟩
      · rw [h3, Bool.eq_false_iff]
        intro h5
        exact hq ((hi _ _).2 ((hi _ _).1 h5).symm)
      · rw [← h4]
        exact h1 p' h3
theorem find_uniq {α β : Type} {q : α → α → Bool} (hi : ∀ x y, q x y = true ↔ x = y) : ∀ (l : List (α × β)), Uniq q l → ∀ p ∈ l, findV q p.1 l = some p.2
  | [], _, p, hp => by cases hp
  | e :: l, h, p, hp => by
    obtain ⟨h1, h2⟩ := List.pairwise_cons.1 h
    rw [findV_cons]
    rcases List.mem_cons.1 hp with rfl | hp
    · rw [if_pos ((hi _ _).2 rfl)]
    · have hn : ¬ q p.1 e.1 = true := fun h3 => by
        have := h1 p hp
        rw [(hi _ _).2 ((hi _ _).1 h3).symm] at this
        cases this
      rw [if_neg hn]
      exact find_uniq hi l h2 p hp
theorem find_mem {α β : Type} {q : α → α → Bool} {k : α} {v : β} : ∀ (l : List (α × β)), findV q k l = some v → ∃ p ∈ l, p.2 = v
  | [], h => by cases h
  | e :: l, h => by
    rw [findV_cons] at h
    split at h
    · exact ⟨e, List.mem_cons_self, Option.some.inj h⟩
    · obtain ⟨p, h1, h2⟩ := find_mem l h
      exact ⟨p, List.mem_cons_of_mem _ h1, h2⟩
theorem inc_uniq {α : Type} {q : α → α → Bool} (hi : ∀ x y, q x y = true ↔ x = y) (d : Int) (l : List α) {m : List (α × Int)} (hm : Uniq q m) : ∀ n, Uniq q (incN q d l m n)
  | 0 => hm
  | n + 1 => by
    unfold incN
    split
    · exact inc_uniq hi d l hm n
    · exact put_uniq hi _ _ _ (inc_uniq hi d l hm n)
theorem alike_val {α : Type} {q : α → α → Bool} (hi : ∀ x y, q x y = true ↔ x = y) (l k : List α) (x : α) : (findV q x (alikeM q l k)).getD 0 = (l.countP (q x) : Int) - k.countP (q x) := by
  unfold alikeM
  rw [incN_val hi, incN_val hi, List.take_length, List.take_length]
  have e0 : (findV q x ([] : List (α × Int))).getD 0 = 0 := rfl
  rw [e0]
  omega
theorem alike_iff {α : Type} {q : α → α → Bool} (hi : ∀ x y, q x y = true ↔ x = y) (l k : List α) : alikeB q l k = true ↔ ∀ x, l.countP (q x) = k.countP (q x) := by
  have hu : Uniq q (alikeM q l k) := by
    unfold alikeM
    exact inc_uniq hi _ _ (inc_uniq hi _ _ List.Pairwise.nil _) _
  unfold alikeB
  rw [List.all_eq_true]
  constructor
  · intro h x
    have hv := alike_val hi l k x
    cases hf : findV q x (alikeM q l k) with
    | none => rw [hf] at hv; simp only [Option.getD_none] at hv; omega
    | some v =>
      obtain ⟨p, hp, e⟩ := find_mem _ hf
      have := of_decide_eq_true (h p hp)
      rw [hf] at hv
      simp only [Option.getD_some] at hv
      omega
  · intro h p hp
    have hv := alike_val hi l k p.1
    rw [find_uniq hi _ hu p hp, h p.1] at hv
    simp only [Option.getD_some] at hv
    exact decide_eq_true (by omega)
theorem count_q {α : Type} [DecidableEq α] {q : α → α → Bool} (hi : ∀ x y, q x y = true ↔ x = y) (l : List α) (x : α) : l.countP (q x) = l.count x := by
  unfold List.count
  refine List.countP_congr fun y _ => ?_
  rw [hi, beq_iff_eq]
  exact eq_comm
theorem alike_perm {α : Type} [DecidableEq α] {q : α → α → Bool} (hi : ∀ x y, q x y = true ↔ x = y) (l k : List α) : alikeB q l k = true ↔ l.Perm k := by
  rw [alike_iff hi, List.perm_iff_count]
  constructor
  · intro h x
    rw [← count_q hi, ← count_q hi]
    exact h x
  · intro h x
    rw [count_q hi, count_q hi]
    exact h x
def alikeR {α : Type} (q : α → α → Bool) (l k : List α) : Bool := decide (l.length = k.length) && l.all (fun x => decide (l.countP (q x) = k.countP (q x)))
def hdrB (a b : CL) (d e : Int) : Bool := decide (d = e ∧ a.ps = b.ps ∧ a.us = b.us ∧ a.rs.length = b.rs.length ∧ a.ms.length = b.ms.length ∧ a.xs.length = b.xs.length)
def cntB {α : Type} (q : α → α → Bool) (l k : List α) : Bool := l.all (fun x => decide (l.countP (q x) = k.countP (q x)))
def exactB (a b : CL) (d e : Int) : Bool := decide (d = e ∧ a.ps = b.ps ∧ a.us = b.us ∧ a.rs = b.rs ∧ a.ms = b.ms ∧ a.xs = b.xs)
theorem sameB_perm (a b : CL) (d e : Int) : sameB a b d e = true ↔ d = e ∧ a.ps = b.ps ∧ a.us = b.us ∧ a.rs.Perm b.rs ∧ a.ms.Perm b.ms ∧ a.xs.Perm b.xs := by
  unfold sameB
  simp only [Bool.and_eq_true, decide_eq_true_iff, alike_perm SRoute.eqb_iff, alike_perm SMeterConf.eqb_iff, alike_perm SMirrorConf.eqb_iff]
theorem CL.Small.n {l : CL} (h : l.Small) : l.n ≤ 4611686018427387904 := by
  obtain ⟨h1, h2, h3, h4, h5⟩ := h
  unfold CL.n
  omega
theorem en20 : Gx.Enters Tryz.prog 20 := Gx.Enters.mk' (by kernel_rfl)
theorem none_idx {α κ : Type} {q : κ → κ → Bool} (hi : ∀ x y, q x y = true ↔ x = y) (f : α → κ) (l : List α) (k : κ) : (findV q k (firstN q f l l.length)).isNone = decide (idxF (fun x => q (f x) k) l < 0) := by
  have h := find_idx hi f l k
  rw [Bool.eq_iff_iff, decide_eq_true_iff, Option.isNone_iff_eq_none, ← Option.not_isSome_iff_eq_none, h]
  simp
structure CL.Few (l : CL) : Prop where
  ps : l.ps.length ≤ 2000
  rs : l.rs.length ≤ 2000
  us : l.us.length ≤ 2000
  ms : l.ms.length ≤ 2000
  xs : l.xs.length ≤ 2000
def ChSame (c d : SChange) : Prop := c.kind = d.kind ∧ c.port = d.port ∧ c.route = d.route ∧ c.meter = d.meter ∧ c.mirror = d.mirror ∧ c.default = d.default
theorem ChSame.refl (c : SChange) : ChSame c c := ⟨rfl, rfl, rfl, rfl, rfl, rfl⟩
structure ChsSame (cs ds : List SChange) (rl rm : List (List SRule)) : Prop where
  n : cs.length = ds.length
  ch : ∀ i, i < cs.length → ChSame (cs.getD i eChange.zero) (ds.getD i eChange.zero)
  r : ∀ i, i < cs.length → rl.getD i [] = rm.getD i []
def OptR (b : Bool) (r : Res) : Res := bif b then r else Emp
def rlC (cs : List SChange) (us : List SRule) : List (List SRule) := cs.map (fun c => if c.kind = 9 then us else [])
theorem rlC_get (cs : List SChange) (us : List SRule) (i : Nat) (h : i < cs.length) : (rlC cs us).getD i [] = if (cs.getD i eChange.zero).kind = 9 then us else [] := by
  unfold rlC
  simp [List.getD, h]
def ChK (rv : OV) (c : SChange) : Prop := (c.kind = 9 ∧ c.rules = rv) ∨ (c.kind ≠ 9 ∧ c.rules = nilSl)
theorem chPort_k (k : Int) (h : k ≠ 9) (x : Int) : (chPort k x).kind ≠ 9 ∧ (chPort k x).rules = nilSl := ⟨h, rfl⟩
theorem chRoute_k (k : Int) (h : k ≠ 9) (x : SRoute) : (chRoute k x).kind ≠ 9 ∧ (chRoute k x).rules = nilSl := ⟨h, rfl⟩
theorem chMeter_k (k : Int) (h : k ≠ 9) (x : SMeterConf) : (chMeter k x).kind ≠ 9 ∧ (chMeter k x).rules = nilSl := ⟨h, rfl⟩
theorem chMirror_k (k : Int) (h : k ≠ 9) (x : SMirrorConf) : (chMirror k x).kind ≠ 9 ∧ (chMirror k x).rules = nilSl := ⟨h, rfl⟩
def is9 (c : SChange) : Bool := decide (c.kind = 9)
def setR (rv : OV) (c : SChange) : SChange := if c.kind = 9 then { c with rules := rv } else c
def runC : List (SChange × List SRule) → CD → Option CD
  | [], s => some s
  | p :: l, s => if changeB s.l p.1 = true then runC l ⟨changeL s.l p.1 p.2, changeD s.d p.1⟩ else none
theorem runC_append : ∀ (l k : List (SChange × List SRule)) (s : CD), runC (l ++ k) s = (runC l s).bind (runC k)
  | [], k, s => rfl
  | p :: l, k, s => by
    show (if changeB s.l p.1 = true then runC (l ++ k) ⟨changeL s.l p.1 p.2, changeD s.d p.1⟩ else none) = Option.bind (if changeB s.l p.1 = true then runC l ⟨changeL s.l p.1 p.2, changeD s.d p.1⟩ else none) (runC k)
    split
    · exact runC_append l k _
    · rfl
def prC (us : List SRule) (c : SChange) : SChange × List SRule := (c, if c.kind = 9 then us else [])
theorem goN_run (s : CD) (cs : List SChange) (us : List SRule) : ∀ n, n ≤ cs.length → goN s cs (rlC cs us) n = runC ((cs.take n).map (prC us)) s
  | 0, _ => rfl
  | n + 1, h => by
    have hlt : n < cs.length := by omega
    have ih := goN_run s cs us n (by omega)
    have e : cs[n] = cs.getD n eChange.zero := by simp [List.getD, hlt]
    rw [List.take_succ_eq_append_getElem hlt, List.map_append, runC_append, ← ih, goN, rlC_get cs us n hlt, e]
    cases goN s cs (rlC cs us) n with
    | none => rfl
    | some t => rfl
theorem goN_all (s : CD) (cs : List SChange) (us : List SRule) : goN s cs (rlC cs us) cs.length = runC (cs.map (prC us)) s := by
  rw [goN_run s cs us _ (Nat.le_refl _), List.take_length]
theorem idx_split {α : Type} {p : α → Bool} : ∀ {l : List α}, 0 ≤ idxF p l → ∃ A y B, l = A ++ y :: B ∧ p y = true ∧ (∀ a ∈ A, p a = false) ∧ idxF p l = A.length := by
  intro l h
  unfold idxF at h
  cases e : l.findIdx? p with
  | none => rw [e] at h; simp only at h; omega
  | some i =>
    obtain ⟨h1, h2, h3⟩ := List.findIdx?_eq_some_iff_getElem.1 e
    refine ⟨l.take i, l[i], l.drop (i + 1), ?_, h2, fun a ha => ?_, ?_⟩
    · rw [← List.drop_eq_getElem_cons h1, List.take_append_drop]
    · obtain ⟨j, hj, rfl⟩ := List.mem_iff_getElem.1 ha
      have hj2 : j < i := by simp at hj; omega
      have := h3 j hj2
      simpa using this
    · unfold idxF
      rw [e, List.length_take]
      simp only
      omega
theorem idx_none' {α : Type} {p : α → Bool} {l : List α} (h : ∀ y ∈ l, p y = false) : idxF p l = -1 := by
  unfold idxF
  rw [List.findIdx?_eq_none_iff.2 h]
theorem idx_nn {α : Type} {p : α → Bool} {l : List α} {y : α} (hy : y ∈ l) (hp : p y = true) : 0 ≤ idxF p l := by
  rcases Int.lt_or_le (idxF p l) 0 with h | h
  · rw [idxF_neg h y hy] at hp
    cases hp
  · exact h
abbrev KeyE {κ : Type} (e : κ → κ → Bool) : Prop := ∀ a b, e a b = true ↔ a = b
theorem set_key {α κ : Type} {e : κ → κ → Bool} (he : KeyE e) {f : α → κ} {l : List α} (hu : (l.map f).Nodup) (x : α) : ((setL l (idxF (fun z => e (f z) (f x)) l) x).map f).Nodup ∧ ∀ y, y ∈ setL l (idxF (fun z => e (f z) (f x)) l) x ↔ y = x ∨ (y ∈ l ∧ f y ≠ f x) := by
  rcases Int.lt_or_le (idxF (fun z => e (f z) (f x)) l) 0 with h | h
  · have hn := idxF_neg h
    have hne : ∀ y ∈ l, f y ≠ f x := fun y hy hk => by
      have := hn y hy
      rw [(he _ _).2 hk] at this
      cases this
    unfold setL
    rw [if_pos h]
    refine ⟨?_, fun y => ?_⟩
    · rw [List.map_append, List.nodup_append]
      refine ⟨hu, by simp, fun a ha b hb => ?_⟩
      obtain ⟨y, hy, rfl⟩ := List.mem_map.1 ha
      simp only [List.map_cons, List.map_nil, List.mem_singleton] at hb
      rw [hb]
      exact hne y hy
    · rw [List.mem_append, List.mem_singleton]
      constructor
      · rintro (h1 | h1)
        · exact .inr ⟨h1, hne y h1⟩
        · exact .inl h1
      · rintro (h1 | h1)
        · exact .inr h1
        · exact .inl h1.1
  · obtain ⟨A, z, B, e1, e2, e3, e4⟩ := idx_split h
    have hz : f z = f x := (he _ _).1 e2
    unfold setL
    rw [if_neg (by omega), e4]
    subst e1
    rw [Int.toNat_natCast, List.set_append_right _ _ (Nat.le_refl _), Nat.sub_self, List.set_cons_zero]
    rw [List.map_append, List.map_cons, hz] at hu
    refine ⟨by rw [List.map_append, List.map_cons]; exact hu, fun y => ?_⟩
    rw [List.nodup_append, List.nodup_cons] at hu
    obtain ⟨u1, ⟨u2, u3⟩, u4⟩ := hu
    simp only [List.mem_append, List.mem_cons]
    constructor
    · rintro (h1 | h1 | h1)
      · exact .inr ⟨.inl h1, u4 _ (List.mem_map_of_mem h1) _ List.mem_cons_self⟩
      · exact .inl h1
      · exact .inr ⟨.inr (.inr h1), fun h2 => u2 (by rw [← h2]; exact List.mem_map_of_mem h1)⟩
    · rintro (h1 | ⟨h1 | h1 | h1, h2⟩)
      · exact .inr (.inl h1)
      · exact .inl h1
      · rw [h1] at h2; exact absurd hz h2
      · exact .inr (.inr h1)
theorem cut_key {α κ : Type} {e : κ → κ → Bool} (he : KeyE e) {f : α → κ} {l : List α} (hu : (l.map f).Nodup) {k : κ} (hk : k ∈ l.map f) : ¬ idxF (fun z => e (f z) k) l < 0 ∧ ((cutI l (idxF (fun z => e (f z) k) l)).map f).Nodup ∧ (cutI l (idxF (fun z => e (f z) k) l)).Sublist l ∧ ∀ y, y ∈ cutI l (idxF (fun z => e (f z) k) l) ↔ y ∈ l ∧ f y ≠ k := by
  obtain ⟨x, hx, rfl⟩ := List.mem_map.1 hk
  have h : 0 ≤ idxF (fun z => e (f z) (f x)) l := idx_nn hx ((he _ _).2 rfl)
  refine ⟨by omega, ?_⟩
  have hs := cutI_sub l (idxF (fun z => e (f z) (f x)) l)
  refine ⟨(hu.sublist (hs.map f)), hs, fun y => ?_⟩
  obtain ⟨A, z, B, e1, e2, e3, e4⟩ := idx_split h
  have hz : f z = f x := (he _ _).1 e2
  unfold cutI cutL
  rw [if_neg (by omega), e4]
  subst e1
  have t1 : (A ++ z :: B).take ((A.length : Int)).toNat = A := by rw [Int.toNat_natCast]; exact List.take_left
  have t2 : (A ++ z :: B).drop ((A.length : Int) + 1).toNat = B := by
    have : ((A.length : Int) + 1).toNat = A.length + 1 := by omega
    rw [this, ← List.drop_drop, List.drop_left]
    rfl
  rw [t1, t2]
  rw [List.map_append, List.map_cons, hz, List.nodup_append, List.nodup_cons] at hu
  obtain ⟨u1, ⟨u2, u3⟩, u4⟩ := hu
  simp only [List.mem_append, List.mem_cons]
  constructor
  · rintro (h1 | h1)
    · exact ⟨.inl h1, u4 _ (List.mem_map_of_mem h1) _ List.mem_cons_self⟩
    · exact ⟨.inr (.inr h1), fun h2 => u2 (by rw [← h2]; exact List.mem_map_of_mem h1)⟩
  · rintro ⟨h1 | h1 | h1, h2⟩
    · exact .inl h1
    · rw [h1] at h2; exact absurd hz h2
    · exact .inr h1
theorem run_sets {α κ : Type} {e : κ → κ → Bool} (he : KeyE e) {f : α → κ} (get : CL → List α) (put : CL → List α → CL) (mk : α → SChange) (hg : ∀ l a, get (put l a) = a) (hp : ∀ l a b, put (put l a) b = put l b)
    (hB : ∀ l x, changeB l (mk x) = true) (hL : ∀ l x, changeL l (mk x) [] = put l (setL (get l) (idxF (fun z => e (f z) (f x)) (get l)) x)) (hD : ∀ d x, changeD d (mk x) = d) :
    ∀ (xs : List α) (l : CL) (d : Int), put l (get l) = l → ((get l).map f).Nodup → (xs.map f).Nodup → ∃ a, runC (xs.map (fun x => (mk x, []))) ⟨l, d⟩ = some ⟨put l a, d⟩ ∧ (a.map f).Nodup ∧ ∀ y, y ∈ a ↔ y ∈ xs ∨ (y ∈ get l ∧ f y ∉ xs.map f)
  | [], l, d, h0, hu, _ => ⟨get l, by rw [h0]; rfl, hu, fun y => by simp⟩
  | x :: xs, l, d, h0, hu, hx => by
    obtain ⟨h1, h2⟩ := set_key he hu x
    rw [List.map_cons, List.nodup_cons] at hx
    obtain ⟨a, a1, a2, a3⟩ := run_sets he get put mk hg hp hB hL hD xs (put l (setL (get l) (idxF (fun z => e (f z) (f x)) (get l)) x)) d (by rw [hg, hp]) (by rw [hg]; exact h1) hx.2
    refine ⟨a, ?_, a2, fun y => ?_⟩
    · rw [hp] at a1
      rw [List.map_cons]
      show (if changeB l (mk x) = true then runC _ ⟨changeL l (mk x) [], changeD d (mk x)⟩ else none) = _
      rw [if_pos (hB l x), hL, hD]
      exact a1
    · rw [a3, hg, h2]
      simp only [List.map_cons, List.mem_cons, not_or]
      constructor
      · rintro (h | ⟨h | ⟨h, h3⟩, h4⟩)
        · exact .inl (.inr h)
        · exact .inl (.inl h)
        · exact .inr ⟨h, h3, h4⟩
      · rintro ((h | h) | ⟨h, h3, h4⟩)
        · exact .inr ⟨.inl h, by rw [h]; exact hx.1⟩
        · exact .inl h
        · exact .inr ⟨.inr ⟨h, h3⟩, h4⟩
theorem run_cuts {α κ : Type} {e : κ → κ → Bool} (he : KeyE e) {f : α → κ} (get : CL → List α) (put : CL → List α → CL) (mk : α → SChange) (hg : ∀ l a, get (put l a) = a) (hp : ∀ l a b, put (put l a) b = put l b)
    (hB : ∀ l x, changeB l (mk x) = decide (¬ idxF (fun z => e (f z) (f x)) (get l) < 0)) (hL : ∀ l x, changeL l (mk x) [] = put l (cutI (get l) (idxF (fun z => e (f z) (f x)) (get l)))) (hD : ∀ d x, changeD d (mk x) = d) :
    ∀ (xs : List α) (l : CL) (d : Int), put l (get l) = l → ((get l).map f).Nodup → (xs.map f).Nodup → (∀ x ∈ xs, f x ∈ (get l).map f) → ∃ a, runC (xs.map (fun x => (mk x, []))) ⟨l, d⟩ = some ⟨put l a, d⟩ ∧ (a.map f).Nodup ∧ a.Sublist (get l) ∧ ∀ y, y ∈ a ↔ y ∈ get l ∧ f y ∉ xs.map f
  | [], l, d, h0, hu, _, _ => ⟨get l, by rw [h0]; rfl, hu, List.Sublist.refl _, fun y => by simp⟩
  | x :: xs, l, d, h0, hu, hx, hm => by
    obtain ⟨h0', h1, hs, h2⟩ := cut_key he hu (hm x List.mem_cons_self)
    rw [List.map_cons, List.nodup_cons] at hx
    obtain ⟨a, a1, a2, asb, a3⟩ := run_cuts he get put mk hg hp hB hL hD xs (put l (cutI (get l) (idxF (fun z => e (f z) (f x)) (get l)))) d (by rw [hg, hp]) (by rw [hg]; exact h1) hx.2 (fun y hy => by
      rw [hg]
      obtain ⟨z, hz, e1⟩ := List.mem_map.1 (hm y (List.mem_cons_of_mem _ hy))
      rw [← e1]
      refine List.mem_map_of_mem ((h2 z).2 ⟨hz, ?_⟩)
      rw [e1]
      exact fun e2 => hx.1 (by rw [← e2]; exact List.mem_map_of_mem hy))
    refine ⟨a, ?_, a2, ?_, fun y => ?_⟩
    · rw [hp] at a1
      rw [List.map_cons]
      show (if changeB l (mk x) = true then runC _ ⟨changeL l (mk x) [], changeD d (mk x)⟩ else none) = _
      rw [if_pos (by rw [hB]; exact decide_eq_true h0'), hL, hD]
      exact a1
    · rw [hg] at asb
      exact asb.trans hs
    · rw [a3, hg, h2]
      simp only [List.map_cons, List.mem_cons, not_or]
      constructor
      · rintro ⟨⟨h, h3⟩, h4⟩
        exact ⟨h, h3, h4⟩
      · rintro ⟨h, h3, h4⟩
        exact ⟨⟨h, h3⟩, h4⟩
theorem add_bad {l : CL} {x : Int} (h : x ∉ l.ps) (h2 : 0 ≤ x ∧ x ≤ 255) : addBad l (chPort 1 x) = false := by
  have hi : iP l (chPort 1 x) = -1 := idx_none' fun y hy => by
    show decide (x = y) = false
    exact decide_eq_false fun e => h (e ▸ hy)
  unfold addBad
  rw [hi, Bool.or_eq_false_iff, Bool.or_eq_false_iff]
  exact ⟨⟨rfl, decide_eq_false (by show ¬ x < 0; omega)⟩, decide_eq_false (by show ¬ 255 < x; omega)⟩
theorem insL_mem (l : List Int) (i a y : Int) : y ∈ insL l i a ↔ y = a ∨ y ∈ l := by
  unfold insL
  have h : y ∈ l ↔ y ∈ l.take i.toNat ∨ y ∈ l.drop i.toNat := by
    rw [← List.mem_append, List.take_append_drop]
  rw [List.mem_append, List.mem_append, List.mem_singleton, h]
  constructor
  · rintro ((h | h) | h)
    · exact .inr (.inl h)
    · exact .inl h
    · exact .inr (.inr h)
  · rintro (h | h | h)
    · exact .inl (.inr h)
    · exact .inl (.inl h)
    · exact .inr h
theorem run_adds : ∀ (xs : List Int) (l : CL) (d : Int), l.ps.Pairwise (· < ·) → xs.Nodup → (∀ x ∈ xs, x ∉ l.ps ∧ 0 ≤ x ∧ x ≤ 255) → ∃ a, runC (xs.map (fun x => (chPort 1 x, []))) ⟨l, d⟩ = some ⟨{ l with ps := a }, d⟩ ∧ a.Pairwise (· < ·) ∧ ∀ y, y ∈ a ↔ y ∈ xs ∨ y ∈ l.ps
  | [], l, d, hs, _, _ => ⟨l.ps, rfl, hs, fun y => by simp⟩
  | x :: xs, l, d, hs, hx, hm => by
    rw [List.nodup_cons] at hx
    obtain ⟨m1, m2⟩ := hm x List.mem_cons_self
    have hb := add_bad m1 m2
    have hL : changeL l (chPort 1 x) [] = { l with ps := insL l.ps (lowB l.ps x) x } := by
      unfold changeL
      rw [show (chPort 1 x).kind = 1 from rfl, if_pos rfl, hb]
      rfl
    have hup : (insL l.ps (lowB l.ps x) x).Pairwise (· < ·) := low_ins hs (fun y hy e => m1 (e ▸ hy))
    obtain ⟨a, a1, a2, a3⟩ := run_adds xs { l with ps := insL l.ps (lowB l.ps x) x } d hup hx.2 (fun y hy => ⟨fun h => by
      rcases (insL_mem _ _ _ _).1 h with h | h
      · exact hx.1 (h ▸ hy)
      · exact (hm y (List.mem_cons_of_mem _ hy)).1 h, (hm y (List.mem_cons_of_mem _ hy)).2⟩)
    refine ⟨a, ?_, a2, fun y => ?_⟩
    · rw [List.map_cons]
      show (if changeB l (chPort 1 x) = true then runC _ ⟨changeL l (chPort 1 x) [], changeD d (chPort 1 x)⟩ else none) = _
      have hB : changeB l (chPort 1 x) = true := by
        unfold changeB
        rw [show (chPort 1 x).kind = 1 from rfl, if_pos rfl, hb]
        rfl
      rw [if_pos hB, hL]
      exact a1
    · rw [a3]
      show y ∈ xs ∨ y ∈ insL l.ps (lowB l.ps x) x ↔ _
      rw [insL_mem, List.mem_cons]
      constructor
      · rintro (h | h | h)
        · exact .inl (.inr h)
        · exact .inl (.inl h)
        · exact .inr h
      · rintro ((h | h) | h)
        · exact .inr (.inl h)
        · exact .inl h
        · exact .inr (.inr h)
theorem none_mem {α κ : Type} {q : κ → κ → Bool} (hi : KeyE q) (f : α → κ) (l : List α) (k : κ) : (findV q k (firstN q f l l.length)).isNone = true ↔ k ∉ l.map f := by
  rw [find_all hi, Option.isNone_iff_eq_none, Option.map_eq_none_iff, List.findIdx?_eq_none_iff]
  constructor
  · intro h hm
    obtain ⟨x, hx, rfl⟩ := List.mem_map.1 hm
    have := h x hx
    rw [(hi _ _).2 rfl] at this
    cases this
  · intro h x hx
    rw [Bool.eq_false_iff]
    intro hq
    exact h (List.mem_map.2 ⟨x, hx, (hi _ _).1 hq⟩)
theorem mem_gone {α κ : Type} {q : κ → κ → Bool} (hi : KeyE q) {β : Type} (g : β → κ) (f : α → κ) (l : List α) (xs : List β) (y : β) : y ∈ xs.filter (fun x => (findV q (g x) (firstN q f l l.length)).isNone) ↔ y ∈ xs ∧ g y ∉ l.map f := by
  rw [List.mem_filter, none_mem hi]
theorem idxF_le {α : Type} {p : α → Bool} {l : List α} {i : Nat} (h : i < l.length) (hp : p l[i] = true) : 0 ≤ idxF p l ∧ idxF p l ≤ i := by
  unfold idxF
  cases e : l.findIdx? p with
  | none =>
    have := List.findIdx?_eq_none_iff.1 e l[i] (List.getElem_mem h)
    rw [hp] at this
    cases this
  | some m =>
    obtain ⟨h1, h2, h3⟩ := List.findIdx?_eq_some_iff_getElem.1 e
    simp only
    rcases Nat.lt_or_ge i m with h4 | h4
    · exact absurd hp (h3 i h4)
    · omega
theorem nodup_inj {α κ : Type} {f : α → κ} {l : List α} (h : (l.map f).Nodup) {x y : α} (hx : x ∈ l) (hy : y ∈ l) (e : f x = f y) : x = y := by
  obtain ⟨i, hi, rfl⟩ := List.mem_iff_getElem.1 hx
  obtain ⟨j, hj, rfl⟩ := List.mem_iff_getElem.1 hy
  have hp := List.pairwise_iff_getElem.1 h
  rcases Nat.lt_trichotomy i j with h1 | h1 | h1
  · exact absurd (by rw [List.getElem_map, List.getElem_map]; exact e) (hp i j (by simpa using hi) (by simpa using hj) h1)
  · subst h1; rfl
  · exact absurd (by rw [List.getElem_map, List.getElem_map]; exact e.symm) (hp j i (by simpa using hj) (by simpa using hi) h1)
theorem nodup_first {α κ : Type} {q : κ → κ → Bool} (hi : KeyE q) {f : α → κ} {l : List α} (z : α) (h : ∀ i, i < l.length → ¬ (findV q (f (l.getD i z)) (firstN q f l l.length)).getD 0 < (i : Int)) : (l.map f).Nodup := by
  refine List.pairwise_iff_getElem.2 fun i j h1 h2 hij e => ?_
  have h1' : i < l.length := by simpa using h1
  have h2' : j < l.length := by simpa using h2
  have hj := h j h2'
  rw [find_at hi f l z j h2'] at hj
  have e2 : l.getD j z = l[j] := by simp [List.getD, h2']
  rw [e2] at hj
  have := (idxF_le (p := fun x => q (f x) (f l[j])) h1' ((hi _ _).2 (by simpa using e))).2
  omega
theorem first_nodup {α κ : Type} {q : κ → κ → Bool} (hi : KeyE q) {f : α → κ} {l : List α} (z : α) (h : (l.map f).Nodup) (i : Nat) (hlt : i < l.length) : ¬ (findV q (f (l.getD i z)) (firstN q f l l.length)).getD 0 < (i : Int) := by
  rw [find_at hi f l z i hlt]
  have e2 : l.getD i z = l[i] := by simp [List.getD, hlt]
  rw [e2]
  obtain ⟨A, y, B, e3, e4, e5, e6⟩ := idx_split (idxF_le (p := fun x => q (f x) (f l[i])) hlt ((hi _ _).2 rfl)).1
  rw [e6]
  intro hl
  have hA : A.length < l.length := by rw [e3]; simp
  have hy : l[A.length] = y := by
    have : ∀ (k : List α) (hk : A.length < k.length), k = A ++ y :: B → k[A.length] = y := fun k hk e => by subst e; simp
    exact this l hA e3
  have hp := List.pairwise_iff_getElem.1 h A.length i (by simpa using hA) (by simpa using hlt) (by omega)
  apply hp
  simp only [List.getElem_map, hy]
  exact (hi _ _).1 e4
theorem ports_in {l : CL} {d : Int} (h : l.Good d) : ∀ x ∈ l.ps, 0 ≤ x ∧ x ≤ 255 := by
  intro x hx
  obtain ⟨i, hi, rfl⟩ := List.mem_iff_getElem.1 hx
  have h1 := h.ps i hi
  have e : l.ps.getD i iE.zero = l.ps[i] := by simp [List.getD, hi]
  rw [e] at h1
  unfold portE at h1
  split at h1
  · cases h1
  · omega
theorem routeE_z {l : CL} {r : SRoute} {i : Int} : routeE l r i = 0 ↔ checkP r.to_ = 0 ∧ portB l r.out = true ∧ ¬ (findV SPrefix.eqb r.to_ (routesM l)).getD 0 < i := by
  unfold routeE
  split
  · rename_i h; simp [h]
  · split
    · rename_i h; simp [h]
    · split
      · rename_i h; simp [h]
      · rename_i h1 h2 h3
        simp only [ne_eq, Decidable.not_not] at h1
        simp [h1, h3]
        simpa using h2
theorem meterE_z {l : CL} {r : SMeterConf} {i : Int} : meterE l r i = 0 ↔ nameB r.name = true ∧ ckB r.bucket = 0 ∧ ¬ (findV eqs r.name (metersM l)).getD 0 < i := by
  unfold meterE
  split
  · rename_i h; simp [h]
  · split
    · rename_i h1 h2
      constructor
      · intro h
        cases h
      · intro hh
        rcases h2 with h | h
        · exact absurd h hh.2.2
        · exact absurd hh.2.1 h
    · rename_i h1 h2
      simp only [not_or, ne_eq, Decidable.not_not] at h2
      exact ⟨fun _ => ⟨by simpa using h1, h2.2, h2.1⟩, fun _ => rfl⟩
theorem mirrorE_z {l : CL} {r : SMirrorConf} {i : Int} : mirrorE l r i = 0 ↔ nameB r.name = true ∧ portB l r.out = true ∧ roomB r.room = true ∧ ¬ (findV eqs r.name (mirrorsM l)).getD 0 < i := by
  unfold mirrorE
  split
  · rename_i h; simp [h]
  · split
    · rename_i h; simp [h]
    · split
      · rename_i h; simp [h]
      · split
        · rename_i h; simp [h]
        · rename_i h1 h2 h3 h4
          exact ⟨fun _ => ⟨by simpa using h1, by simpa using h3, by simpa using h4, h2⟩, fun _ => rfl⟩
theorem good_rs {l : CL} {d : Int} (h : l.Good d) : (l.rs.map (·.to_)).Nodup := nodup_first SPrefix.eqb_iff eRoute.zero fun i hi => (routeE_z.1 (h.rs i hi)).2.2
theorem good_ms {l : CL} {d : Int} (h : l.Good d) : (l.ms.map (·.name)).Nodup := nodup_first eqs_iff eMeterConf.zero fun i hi => (meterE_z.1 (h.ms i hi)).2.2
theorem good_xs {l : CL} {d : Int} (h : l.Good d) : (l.xs.map (·.name)).Nodup := nodup_first eqs_iff eMirrorConf.zero fun i hi => (mirrorE_z.1 (h.xs i hi)).2.2.2
theorem getD_of {α : Type} (l : List α) (z : α) {P : α → Nat → Prop} (h : ∀ i, i < l.length → P (l.getD i z) i) : ∀ x ∈ l, ∃ i, i < l.length ∧ P x i := fun x hx => by
  obtain ⟨i, hi, rfl⟩ := List.mem_iff_getElem.1 hx
  have := h i hi
  have e : l.getD i z = l[i] := by simp [List.getD, hi]
  rw [e] at this
  exact ⟨i, hi, this⟩
theorem inM_iff {α : Type} (f : α → ByteArray) (l : List α) (s : ByteArray) : inM (firstN eqs f l l.length) s = true ↔ s ∈ l.map f := by
  unfold inM
  have h := none_mem eqs_iff f l s
  cases hf : findV eqs s (firstN eqs f l l.length) with
  | none => rw [hf] at h; simpa using h
  | some v => rw [hf] at h; simpa using h
theorem inM_perm {α : Type} (f : α → ByteArray) {l k : List α} (h : l.Perm k) (s : ByteArray) : inM (firstN eqs f l l.length) s = inM (firstN eqs f k k.length) s := by
  rw [Bool.eq_iff_iff, inM_iff, inM_iff]
  exact (h.map f).mem_iff
theorem good_of {k t : CL} {d : Int} (hk : k.Good d) (hps : t.ps = k.ps) (hus : t.us = k.us) (hrs : t.rs.Perm k.rs) (hms : t.ms.Perm k.ms) (hxs : t.xs.Perm k.xs) : t.Good d := by
  have hpb : ∀ p, portB t p = portB k p := fun p => by
    unfold portB portsM
    rw [hps]
  refine ⟨by rw [hps]; exact hk.ps, fun i hi => ?_, fun i hi => ?_, fun i hi => ?_, fun i hi => ?_, hk.d⟩
  · obtain ⟨j, hj, hz⟩ := getD_of k.rs eRoute.zero (P := fun x i => routeE k x i = 0) hk.rs _ (hrs.mem_iff.1 (getD_in t.rs i eRoute.zero hi))
    obtain ⟨z1, z2, _⟩ := routeE_z.1 hz
    exact routeE_z.2 ⟨z1, by rw [hpb]; exact z2, first_nodup SPrefix.eqb_iff eRoute.zero ((hrs.map _).nodup_iff.2 (good_rs hk)) i hi⟩
  · have hus' : rulesM t = rulesM k := by unfold rulesM; rw [hus]
    have e : ∀ x q, ruleE t x q = ruleE k x q := fun x q => by
      unfold ruleE ruleO
      rw [hus', hpb]
      have h1 : inM (metersM t) x.meter = inM (metersM k) x.meter := inM_perm _ hms _
      have h2 : inM (mirrorsM t) x.mirror = inM (mirrorsM k) x.mirror := inM_perm _ hxs _
      rw [h1, h2]
    rw [e, hus]
    exact hk.us i (by rw [← hus]; exact hi)
  · obtain ⟨j, hj, hz⟩ := getD_of k.ms eMeterConf.zero (P := fun x i => meterE k x i = 0) hk.ms _ (hms.mem_iff.1 (getD_in t.ms i eMeterConf.zero hi))
    obtain ⟨z1, z2, _⟩ := meterE_z.1 hz
    exact meterE_z.2 ⟨z1, z2, first_nodup eqs_iff eMeterConf.zero ((hms.map _).nodup_iff.2 (good_ms hk)) i hi⟩
  · obtain ⟨j, hj, hz⟩ := getD_of k.xs eMirrorConf.zero (P := fun x i => mirrorE k x i = 0) hk.xs _ (hxs.mem_iff.1 (getD_in t.xs i eMirrorConf.zero hi))
    obtain ⟨z1, z2, z3, _⟩ := mirrorE_z.1 hz
    exact mirrorE_z.2 ⟨z1, by rw [hpb]; exact z2, z3, first_nodup eqs_iff eMirrorConf.zero ((hxs.map _).nodup_iff.2 (good_xs hk)) i hi⟩
theorem faultsUp_z {e : Nat → Int} {d : Int} : ∀ {n : Nat}, (∀ i, i < n → e i = 0) → faultsUp e d n = []
  | 0, _ => rfl
  | n + 1, h => by
    unfold faultsUp
    rw [faultsUp_z (fun i hi => h i (by omega)), if_pos (h n (by omega))]
    rfl
theorem listG_z {e : Nat → Int} {d : Int} {n most : Nat} (hn : n ≤ most) (h : ∀ i, i < n → e i = 0) : listG e d n most = [] := by
  unfold listG
  rw [faultsUp_z (fun i hi => h i (by omega)), if_neg (by omega)]
  rfl
theorem good_may {l : CL} {d : Int} (h : l.Good d) (hl : l.ps.length ≤ 256 ∧ l.rs.length ≤ 1024 ∧ l.us.length ≤ 256 ∧ l.ms.length ≤ 64 ∧ l.xs.length ≤ 16) : mayB l d = true := by
  unfold mayB checkF thingsF
  refine decide_eq_true ?_
  rw [listG_z hl.1 h.ps, listG_z hl.2.1 h.rs, listG_z hl.2.2.1 h.us, listG_z hl.2.2.2.1 h.ms, listG_z hl.2.2.2.2 h.xs, h.d]
  rfl
theorem key_merge {α κ : Type} {f : α → κ} {L K S a2 a8 F2 F8 : List α} (hL : (L.map f).Nodup) (hK : (K.map f).Nodup) (hS : ∀ y, y ∈ S ↔ y ∈ L) (h2 : ∀ y, y ∈ F2 ↔ y ∈ K ∧ y ∉ L) (h8 : ∀ y, y ∈ F8 ↔ y ∈ L ∧ f y ∉ K.map f)
    (ha2 : ∀ y, y ∈ a2 ↔ y ∈ F2 ∨ (y ∈ S ∧ f y ∉ F2.map f)) (ha8 : ∀ y, y ∈ a8 ↔ y ∈ a2 ∧ f y ∉ F8.map f) : ∀ y, y ∈ a8 ↔ y ∈ K := by
  intro y
  rw [ha8, ha2]
  constructor
  · rintro ⟨h | ⟨h, h3⟩, h4⟩
    · exact ((h2 y).1 h).1
    · have hyL := (hS y).1 h
      have hk : f y ∈ K.map f := Classical.byContradiction fun hn => h4 (List.mem_map_of_mem ((h8 y).2 ⟨hyL, hn⟩))
      obtain ⟨z, hz, e⟩ := List.mem_map.1 hk
      have hzL : z ∈ L := Classical.byContradiction fun hn => h3 (by rw [← e]; exact List.mem_map_of_mem ((h2 z).2 ⟨hz, hn⟩))
      rw [← nodup_inj hL hzL hyL e]
      exact hz
  · intro hy
    refine ⟨?_, fun hm => ?_⟩
    · by_cases hyL : y ∈ L
      · refine .inr ⟨(hS y).2 hyL, fun hm => ?_⟩
        obtain ⟨z, hz, e⟩ := List.mem_map.1 hm
        obtain ⟨hz1, hz2⟩ := (h2 z).1 hz
        rw [nodup_inj hK hz1 hy e] at hz2
        exact hz2 hyL
      · exact .inl ((h2 y).2 ⟨hy, hyL⟩)
    · obtain ⟨z, hz, e⟩ := List.mem_map.1 hm
      exact ((h8 z).1 hz).2 (by rw [e]; exact List.mem_map_of_mem hy)
theorem nodup_of {α κ : Type} {f : α → κ} {l : List α} (h : (l.map f).Nodup) : l.Nodup := by
  refine List.pairwise_iff_getElem.2 fun i j h1 h2 hij e => ?_
  have := List.pairwise_iff_getElem.1 h i j (by simpa using h1) (by simpa using h2) hij
  exact this (by simp [e])
theorem perm_of {α κ : Type} [DecidableEq α] {f : α → κ} {l k : List α} (hl : (l.map f).Nodup) (hk : (k.map f).Nodup) (h : ∀ y, y ∈ l ↔ y ∈ k) : l.Perm k :=
  (List.perm_ext_iff_of_nodup (nodup_of hl) (nodup_of hk)).2 h
theorem up_nodup {l : List Int} (h : l.Pairwise (· < ·)) : l.Nodup := h.imp fun {a b} hab => by omega
theorem up_eq : ∀ {l k : List Int}, l.Pairwise (· < ·) → k.Pairwise (· < ·) → (∀ y, y ∈ l ↔ y ∈ k) → l = k
  | [], [], _, _, _ => rfl
  | [], y :: k, _, _, h => absurd ((h y).2 List.mem_cons_self) List.not_mem_nil
  | x :: l, [], _, _, h => absurd ((h x).1 List.mem_cons_self) List.not_mem_nil
  | x :: l, y :: k, hl, hk, h => by
    obtain ⟨l1, l2⟩ := List.pairwise_cons.1 hl
    obtain ⟨k1, k2⟩ := List.pairwise_cons.1 hk
    have e : x = y := by
      have hx := (h x).1 List.mem_cons_self
      have hy := (h y).2 List.mem_cons_self
      rcases List.mem_cons.1 hx with e | hx
      · exact e
      · rcases List.mem_cons.1 hy with e | hy
        · exact e.symm
        · have := k1 x hx
          have := l1 y hy
          omega
    subst e
    congr 1
    refine up_eq l2 k2 fun z => ?_
    constructor
    · intro hz
      rcases List.mem_cons.1 ((h z).1 (List.mem_cons_of_mem _ hz)) with e | hz2
      · have := l1 z hz; omega
      · exact hz2
    · intro hz
      rcases List.mem_cons.1 ((h z).2 (List.mem_cons_of_mem _ hz)) with e | hz2
      · have := k1 z hz; omega
      · exact hz2
end Go.Proofs.YtnoobdijbpmjkaaGreat
