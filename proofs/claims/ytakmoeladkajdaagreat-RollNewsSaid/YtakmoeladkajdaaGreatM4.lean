/- Part. -/
import Derived.Test.YtakmoeladkajdaaGreatM3
set_option linter.unusedVariables false
set_option linter.unusedSimpArgs false
set_option linter.unusedSectionVars false
namespace Go.Proofs.YtakmoeladkajdaaGreat
open Go Go.Gx Go.Proofs.YtakmoeladkajdaaGreat.Tri
theorem putK_stepI {α κ : Type} (q : κ → κ → Bool) (f : α → κ) (l : List α) (z : α) {i : Int} (h : 0 ≤ i ∧ i < l.length) : putN q f (fun k : Nat => (k : Int)) l (i + 1).toNat = putL q (f (l.getD i.toNat z)) i (putN q f (fun k : Nat => (k : Int)) l i.toNat) := by
  rw [putN_stepI q f _ l z h]
  have e : ((i.toNat : Nat) : Int) = i := by omega
  simp only [e]
theorem vd_step (l : CL) {i : Int} (h : 0 ≤ i) : (List.range (i + 1).toNat).map (vdV l) = (List.range i.toNat).map (vdV l) ++ [vdV l i.toNat] := by
  have e : (i + 1).toNat = i.toNat + 1 := by omega
  rw [e, List.range_succ, List.map_append]
  rfl
theorem decider_to (b : Nat) (x : SPlanPlan) (r : OV) (a o : Int) (w : World) (hb : PtsTo ePlanPlan w b 0 x) (hr : x.routes = r) : Calls Tryz.prog 45 #[.pointer (some ⟨b, 0, none⟩), I a, I o] w (RetV w (decO r a o).v) := by
  subst hr
  exact decider_ok b x a o w hb
def noPl : Pl := ⟨0, ⟨nilSl, nilSl, nilSl, nilSl, nilSl⟩, 0, ⟨0, true, 0, .nil, .nil⟩, 0, nilSl, nilSl⟩
theorem en44 : Gx.Enters Tryz.prog 44 := Gx.Enters.mk' zk
theorem en41 : Gx.Enters Tryz.prog 41 := Gx.Enters.mk' zk
theorem en42 : Gx.Enters Tryz.prog 42 := Gx.Enters.mk' zk
theorem z127 : (Tryz.prog.info? 127).bind (·.zero) = some (ePlanPlan.val ePlanPlan.zero) := by kernel_rfl
theorem en43 : Gx.Enters Tryz.prog 43 := Gx.Enters.mk' zk
theorem ty124 : TyOK Tryz.prog 124 (ovE nilSl) := TyOK.mk' zk zk
theorem en45 : Gx.Enters Tryz.prog 45 := Gx.Enters.mk' zk
theorem ty141 : TyOK Tryz.prog 141 (ovE nilIf) := TyOK.mk' zk zk
theorem z141 : (Tryz.prog.info? 141).bind (·.zero) = some ((ovE nilIf).val (ovE nilIf).zero) := by kernel_rfl
theorem zb141 : (Tryz.prog.info? 141).map (fun i => (i.zero, i.bytes)) = some (some ((ovE nilIf).val (ovE nilIf).zero), 16) := by kernel_rfl
theorem zs141 : ((ovE nilIf).val (ovE nilIf).zero).cells.size = (ovE nilIf).size := by rw [Enc.cells_val, List.size_toArray, Enc.len]
theorem ty125 : TyOK Tryz.prog 125 (ovE nilSl) := TyOK.mk' zk zk
theorem z60 : (Tryz.prog.info? 60).bind (·.zero) = some (eVerdict.val eVerdict.zero) := by kernel_rfl
theorem ty60 : TyOK Tryz.prog 60 eVerdict := TyOK.mk' zk zk
theorem zb60 : (Tryz.prog.info? 60).map (fun i => (i.zero, i.bytes)) = some (some (eVerdict.val eVerdict.zero), 40) := by kernel_rfl
theorem zs60 : (eVerdict.val eVerdict.zero).cells.size = eVerdict.size := by rw [Enc.cells_val, List.size_toArray, Enc.len]
theorem en46 : Gx.Enters Tryz.prog 46 := Gx.Enters.mk' zk
theorem ty123 : TyOK Tryz.prog 123 (ovE nilPtr) := TyOK.mk' zk zk
set_option maxRecDepth 8000 in
theorem compile_plan (c : SConf) (l : CL) (w : World) (hc : ConfAt w c l) (hn : l.Names) (hz : l.n ≤ 4611686018427387904) : Calls Tryz.prog 24 #[eConf.val c] w (RetN w (CompileJ l c.default) (fun x : Pl × List Res => .tuple #[.pointer (plO l c.default x.1.b), I (plE l c.default)]) (fun x => x.2)) := by
  have hlp := hc.ps.le
  have hlr := hc.rs.le
  have hlu := hc.us.le
  have hlm := hc.ms.le
  have hlx := hc.xs.le
  refine en0 162 Tryz.func24 ?_
  refine sg (cons (box (E := eConf) (.t rfl) (fun b1 => ?_)))
  refine co (Ev.assign (.c (v := (Go.Value.pointer none)) rfl)) ?_
  refine co (Ev.assign (.c (v := I 0) rfl)) ?_
  refine nP (seq (sg (co (Ev.ldv ty28 (.t rfl) (Lens.id _)) ?_)))
  refine cons (callv en41 (.cons (.t rfl) .nil) (fun w I => may_ok c l w (hc.keep0 I.keeps) hn hz) ?_)
  refine co (Ev.not (.t rfl)) ?_
  refine nP ?_
  first | refine condD rfl (fun h0 => ?_) (fun h0 => ?_) | refine cond rfl (fun h0 => ?_) (fun h0 => ?_)
  · have hmay : mayB l c.default = false := by simpa using h0
    refine sg (co (Ev.assign (.c (v := (Go.Value.pointer none)) rfl)) ?_)
    refine co (Ev.assign (.c (v := I 210) rfl)) ?_
    refine nP (ret (pR (done rfl (.tmp rfl (.tmp rfl .nil)) (fun w I => ?_))))
    refine retNP (noPl, []) (fun h => by rw [hmay] at h; cases h) ?_ SubP.nil w I
    show _ = Value.tuple #[.pointer (plO l c.default _), Gx.I (plE l c.default)]
    unfold plO plE
    rw [hmay]
    rfl
  · have hmay : mayB l c.default = true := by simpa using h0
    have hlens := may_lens hmay
    have hcomp := may_comp hmay
    have hof := may_ofR hmay
    have hgm := good_ms (may_good hmay)
    have hgx := good_xs (may_good hmay)
    have hsm : l.Small := ⟨by omega, by omega, by omega, by omega, by omega⟩
    refine emp0 ?_
    refine skip (pN (sg (co (Ev.ldv ty28 (.t rfl) (Lens.id _)) ?_)))
    refine cons (calln (X := CB) (fun _ => True) (fun x => eConf.val (x.c c.default)) (fun x => x.R l) en42 (.cons (.t rfl) .nil) (fun w I => copy_ok c l w (hc.keep0 I.keeps) hsm) (fun x0 _ => ?_))
    refine takeSeps (r := Emp) zr ?_
    refine cons (makeMap (E := iE) (V := bE) (fun b2 => ?_))
    refine co (Ev.buildS (fs := _) (places := [(0, 6), (6, 1), (7, 1), (8, 1), (9, 1), (10, 1)]) z127 rfl Tryz.underlying127 zk (.cons (.t rfl) (.cons (.t (v := (mapV b2).v) rfl) .nil)) (Fills.cons SPlanPlan.l_conf rfl (Fills.cons SPlanPlan.l_ports rfl Fills.nil))) ?_
    refine cons (box (E := ePlanPlan) (.t rfl) (fun b3 => ?_))
    refine asn rfl (nP (seq (sg (co (fA 0 (.t rfl)) ?_))))
    refine co (Ev.ldv ty22 (.t rfl) SConf.l_ports) ?_
    refine co (Ev.len Tryz.underlying22 (.t rfl) (fun w I => (hc.keep0 I.keeps).ps)) ?_
    refine co (Ev.move (.c (v := I 0) rfl)) ?_
    refine nP (block (lp (X := Int) (fun x : Int => (0 ≤ x ∧ x ≤ l.ps.length)) (fun x : Int => [dz, (1, true, .pointer (some ⟨b1, 0, none⟩)), (4, true, .pointer (some ⟨b3, 0, none⟩)), (27, true, c.ports.v), (28, true, I l.ps.length), (29, true, I x)]) (fun x : Int => [Var b3 ePlanPlan (⟨x0.c c.default, mapV b2, nilPtr, nilPtr, nilSl, nilSl⟩ : SPlanPlan) 127, MapR b2 iE bE (putN eqd (fun x => x) (fun _ => true) l.ps x.toNat), Seps Emp (x0.R l), Var b1 eConf c 28]) (fun x : Int => ((l.ps.length : Int) - x).toNat) (0) ?_ (fun x hx => ?_)))
    · omega
    obtain ⟨i0, rfl⟩ : ∃ y, y = x := ⟨x, rfl⟩
    have hi0 : 0 ≤ i0 ∧ i0 ≤ l.ps.length := hx
    clear hx
    show Sat _ _ [dz, (1, true, .pointer (some ⟨b1, 0, none⟩)), (4, true, .pointer (some ⟨b3, 0, none⟩)), (27, true, c.ports.v), (28, true, I l.ps.length), (29, true, I i0)] [Var b3 ePlanPlan (⟨x0.c c.default, mapV b2, nilPtr, nilPtr, nilSl, nilSl⟩ : SPlanPlan) 127, MapR b2 iE bE (putN eqd (fun x => x) (fun _ => true) l.ps i0.toNat), Seps Emp (x0.R l), Var b1 eConf c 28]
    refine sg (co (Ev.lss_i (.t rfl) (.t rfl)) ?_)
    refine nP (seq ?_)
    first | refine condD rfl (fun h1 => ?_) (fun h1 => ?_) | refine cond rfl (fun h1 => ?_) (fun h1 => ?_)
    · try simp only [Gx.nb] at h1
      refine skip (pN (seq (block (sg (co (Ev.indexAddr Tryz.underlying22 ty3 (.t rfl) (.t rfl) (fun w I => (hc.keep0 I.keeps).ps) (fun _ => zo)) ?_)))))
      refine co (Ev.loadS0 ty3 (.t rfl) (fun w I => (hc.keep0 I.keeps).ps) (fun _ => zo)) ?_
      refine asn rfl (nP (region (mv rfl (co (Ev.nilCheck (.t rfl)) ?_))))
      refine co (fA 6 (.t rfl)) ?_
      refine co (Ev.to (v' := .map (some b2)) (Ev.ldv ty121 (.t rfl) SPlanPlan.l_ports) (rfl)) ?_
      refine mv rfl (cons (mapUpdate (V := bE) (v := true) Tryz.underlying121 Tryz.underlying3 key3 (.t rfl) (.t rfl) (.c rfl) zu ?_))
      refine nil (bN (pN (region (co (Ev.add_i (.t rfl) (.c (v := I 1) rfl) (fun _ => zo)) ?_))))
      refine mv rfl (nP (nx (X := Int) (i0 + 1) ?_ ?_ (hL := (by rw [putN_stepI _ _ _ _ iE.zero (by omega)]; exact zs))))
      · try dsimp only
        omega
      · try dsimp only
        omega
    · try simp only [Gx.nb] at h1
      refine exit (pX (pX (bX (pN (seq ?_)))))
      have e0 : i0.toNat = l.ps.length := by omega
      rw [e0]
      refine region (co (Ev.assign (.c (v := I 0) rfl)) ?_)
      refine nP (seq (sg (mv rfl (co (fA 1 (.t rfl)) ?_))))
      refine co (Ev.ldv ty23 (.t rfl) SConf.l_routes) ?_
      refine cons (calln (X := Tt × List Res) (Tri.TofJ l.rs) (fun x => .tuple #[.pointer (Tri.pO (Tri.ofR l.rs) x.1.b), I (Tri.ofR l.rs)]) (fun x => x.2) en43 (.cons (.t rfl) .nil) (fun w I => Tri.tof_ok _ l.rs w (hc.keep0 I.keeps).rs (by omega)) (fun xt hxt => ?_))
      refine mv rfl (co (Ev.to (v' := xt.1.ptr.v) (Ev.extract (.t rfl) rfl) (congrArg Value.pointer (if_pos hof))) ?_)
      refine co (Ev.to (v' := I 0) (Ev.extract (.t rfl) rfl) (congrArg Gx.I hof)) ?_
      refine co (Ev.nilCheck (.t rfl)) ?_
      refine co (fA 7 (.t rfl)) ?_
      refine cons (stv ty122 SPlanPlan.l_routes (.t rfl) (.t rfl) ?_)
      refine asn rfl (nP (seq (takeSeps (r := Seps Emp (x0.R l)) zr ?_)))
      obtain ⟨hok, hen, _, htr⟩ := hxt hof
      refine region (mv rfl (co (Ev.neq_i (.t rfl) (.c (v := I 0) rfl)) ?_))
      refine nP (condF rfl (rfl) ?_)
      refine skip (pN (sg (cons (makeMap (E := sE) (V := iE) (fun b4 => ?_)))))
      refine cons (makeMap (E := sE) (V := iE) (fun b5 => ?_))
      refine asn rfl (asn rfl (nP (seq (sg (co (fA 3 (.t rfl)) ?_)))))
      refine co (Ev.ldv ty25 (.t rfl) SConf.l_meters) ?_
      refine co (Ev.len Tryz.underlying25 (.t rfl) (fun w I => (hc.keep0 I.keeps).ms)) ?_
      refine co (Ev.move (.c (v := I 0) rfl)) ?_
      refine nP (block (lp (X := Int) (fun x : Int => (0 ≤ x ∧ x ≤ l.ms.length)) (fun x : Int => [dz, (1, true, .pointer (some ⟨b1, 0, none⟩)), (4, true, .pointer (some ⟨b3, 0, none⟩)), (8, true, .map (some b4)), (9, true, .map (some b5)), (53, true, c.meters.v), (54, true, I l.ms.length), (55, true, I x)]) (fun x : Int => [MapR b5 sE iE ([] : List (ByteArray × Int)), MapR b4 sE iE (putN eqs (fun r : SMeterConf => r.name) (fun k : Nat => (k : Int)) l.ms x.toNat), Seps (Seps Emp (x0.R l)) xt.2, Var b3 ePlanPlan (⟨x0.c c.default, mapV b2, xt.1.ptr, nilPtr, nilSl, nilSl⟩ : SPlanPlan) 127, MapR b2 iE bE (portsP l), Var b1 eConf c 28]) (fun x : Int => ((l.ms.length : Int) - x).toNat) (0) ?_ (fun x hx => ?_)))
      · omega
      obtain ⟨i1, rfl⟩ : ∃ y, y = x := ⟨x, rfl⟩
      have hi1 : 0 ≤ i1 ∧ i1 ≤ l.ms.length := hx
      clear hx
      show Sat _ _ [dz, (1, true, .pointer (some ⟨b1, 0, none⟩)), (4, true, .pointer (some ⟨b3, 0, none⟩)), (8, true, .map (some b4)), (9, true, .map (some b5)), (53, true, c.meters.v), (54, true, I l.ms.length), (55, true, I i1)] [MapR b5 sE iE ([] : List (ByteArray × Int)), MapR b4 sE iE (putN eqs (fun r : SMeterConf => r.name) (fun k : Nat => (k : Int)) l.ms i1.toNat), Seps (Seps Emp (x0.R l)) xt.2, Var b3 ePlanPlan (⟨x0.c c.default, mapV b2, xt.1.ptr, nilPtr, nilSl, nilSl⟩ : SPlanPlan) 127, MapR b2 iE bE (portsP l), Var b1 eConf c 28]
      refine sg (co (Ev.lss_i (.t rfl) (.t rfl)) ?_)
      refine nP (seq ?_)
      first | refine condD rfl (fun h3 => ?_) (fun h3 => ?_) | refine cond rfl (fun h3 => ?_) (fun h3 => ?_)
      · try simp only [Gx.nb] at h3
        refine skip (pN (seq (block (sg (mv rfl (co (Ev.indexAddr Tryz.underlying25 ty134 (.t rfl) (.t rfl) (fun w I => (hc.keep0 I.keeps).ms) (fun _ => zo)) ?_))))))
        refine co (Ev.loadS0 ty134 (.t rfl) (fun w I => (hc.keep0 I.keeps).ms) (fun _ => zo)) ?_
        refine cons (alloc z134 (fun b6 => ?_))
        refine asn rfl (cons (stv ty134 (Lens.id _) (.t rfl) (.t rfl) ?_))
        refine nP (region (mv rfl (co (fA 0 (.t rfl)) ?_)))
        refine co (Ev.ldv ty9 (.t rfl) SMeterConf.l_name) ?_
        refine mv rfl (cons (mapUpdate Tryz.underlying130 Tryz.underlying9 key9 (.t rfl) (.t rfl) (.t rfl) zu ?_))
        refine nil (bN (pN (region (co (Ev.add_i (.t rfl) (.c (v := I 1) rfl) (fun _ => zo)) ?_))))
        refine mv rfl (nP (nx (X := Int) (i1 + 1) ?_ ?_ (hL := (by rw [putK_stepI _ _ _ eMeterConf.zero (by omega)]; exact zs))))
        · try dsimp only
          omega
        · try dsimp only
          omega
      · try simp only [Gx.nb] at h3
        refine exit (pX (pX (bX (pN (seq (seq ?_))))))
        have e1 : i1.toNat = l.ms.length := by omega
        rw [e1]
        refine region (co (fA 4 (.t rfl)) ?_)
        refine co (Ev.ldv ty26 (.t rfl) SConf.l_mirrors) ?_
        refine co (Ev.len Tryz.underlying26 (.t rfl) (fun w I => (hc.keep0 I.keeps).xs)) ?_
        refine co (Ev.move (.c (v := I 0) rfl)) ?_
        refine nP (block (lp (X := Int) (fun x : Int => (0 ≤ x ∧ x ≤ l.xs.length)) (fun x : Int => [dz, (1, true, .pointer (some ⟨b1, 0, none⟩)), (4, true, .pointer (some ⟨b3, 0, none⟩)), (8, true, .map (some b4)), (9, true, .map (some b5)), (66, true, c.mirrors.v), (67, true, I l.xs.length), (68, true, I x)]) (fun x : Int => [MapR b5 sE iE (putN eqs (fun r : SMirrorConf => r.name) (fun k : Nat => (k : Int)) l.xs x.toNat), MapR b4 sE iE (putN eqs (fun r : SMeterConf => r.name) (fun k : Nat => (k : Int)) l.ms l.ms.length), Seps (Seps Emp (x0.R l)) xt.2, Var b3 ePlanPlan (⟨x0.c c.default, mapV b2, xt.1.ptr, nilPtr, nilSl, nilSl⟩ : SPlanPlan) 127, MapR b2 iE bE (portsP l), Var b1 eConf c 28]) (fun x : Int => ((l.xs.length : Int) - x).toNat) (0) ?_ (fun x hx => ?_)))
        · omega
        obtain ⟨i2, rfl⟩ : ∃ y, y = x := ⟨x, rfl⟩
        have hi2 : 0 ≤ i2 ∧ i2 ≤ l.xs.length := hx
        clear hx
        show Sat _ _ [dz, (1, true, .pointer (some ⟨b1, 0, none⟩)), (4, true, .pointer (some ⟨b3, 0, none⟩)), (8, true, .map (some b4)), (9, true, .map (some b5)), (66, true, c.mirrors.v), (67, true, I l.xs.length), (68, true, I i2)] [MapR b5 sE iE (putN eqs (fun r : SMirrorConf => r.name) (fun k : Nat => (k : Int)) l.xs i2.toNat), MapR b4 sE iE (putN eqs (fun r : SMeterConf => r.name) (fun k : Nat => (k : Int)) l.ms l.ms.length), Seps (Seps Emp (x0.R l)) xt.2, Var b3 ePlanPlan (⟨x0.c c.default, mapV b2, xt.1.ptr, nilPtr, nilSl, nilSl⟩ : SPlanPlan) 127, MapR b2 iE bE (portsP l), Var b1 eConf c 28]
        refine sg (co (Ev.lss_i (.t rfl) (.t rfl)) ?_)
        refine nP (seq ?_)
        first | refine condD rfl (fun h4 => ?_) (fun h4 => ?_) | refine cond rfl (fun h4 => ?_) (fun h4 => ?_)
        · try simp only [Gx.nb] at h4
          refine skip (pN (seq (block (sg (mv rfl (co (Ev.indexAddr Tryz.underlying26 ty136 (.t rfl) (.t rfl) (fun w I => (hc.keep0 I.keeps).xs) (fun _ => zo)) ?_))))))
          refine co (Ev.loadS0 ty136 (.t rfl) (fun w I => (hc.keep0 I.keeps).xs) (fun _ => zo)) ?_
          refine cons (alloc z136 (fun b7 => ?_))
          refine asn rfl (cons (stv ty136 (Lens.id _) (.t rfl) (.t rfl) ?_))
          refine nP (region (mv rfl (co (fA 0 (.t rfl)) ?_)))
          refine co (Ev.ldv ty9 (.t rfl) SMirrorConf.l_name) ?_
          refine mv rfl (cons (mapUpdate Tryz.underlying130 Tryz.underlying9 key9 (.t rfl) (.t rfl) (.t rfl) zu ?_))
          refine nil (bN (pN (region (co (Ev.add_i (.t rfl) (.c (v := I 1) rfl) (fun _ => zo)) ?_))))
          refine mv rfl (nP (nx (X := Int) (i2 + 1) ?_ ?_ (hL := (by rw [putK_stepI _ _ _ eMirrorConf.zero (by omega)]; exact zs))))
          · try dsimp only
            omega
          · try dsimp only
            omega
        · try simp only [Gx.nb] at h4
          refine exit (pX (pX (bX (pN (seq ?_)))))
          have e2 : i2.toNat = l.xs.length := by omega
          rw [e2]
          refine region (co (Ev.assign .f) ?_)
          refine nP (sg (co (Ev.assign (.c (v := (Go.Value.slice none 0 0)) rfl)) ?_))
          refine takeNil eMatch 111 ?_
          refine nP (seq (sg (co (fA 2 (.t rfl)) ?_)))
          refine co (Ev.ldv ty24 (.t rfl) SConf.l_rules) ?_
          refine co (Ev.len Tryz.underlying24 (.t rfl) (fun w I => (hc.keep0 I.keeps).us)) ?_
          refine co (Ev.move (.c (v := I 0) rfl)) ?_
          refine nP (block (takeNil (ovE nilIf) 141 ?_))
          refine takeNil eVerdict 60 ?_
          refine lp (X := Int × OV × OV × OV) (fun x : Int × OV × OV × OV => (0 ≤ x.1 ∧ x.1 ≤ l.us.length)) (fun x : Int × OV × OV × OV => [dz, (1, true, .pointer (some ⟨b1, 0, none⟩)), (4, true, .pointer (some ⟨b3, 0, none⟩)), (8, true, .map (some b4)), (9, true, .map (some b5)), (14, true, (clo 44 []).v), (15, true, x.2.1.v), (79, true, c.rules.v), (80, true, I l.us.length), (81, true, I x.1)]) (fun x : Int × OV × OV × OV => [OwnS x.2.2.2.v eVerdict ((List.range x.1.toNat).map (vdV l)) 60, OwnS x.2.2.1.v (ovE nilIf) ((l.us.take x.1.toNat).map (fun u => decO xt.1.ptr u.action u.out)) 141, OwnS x.2.1.v eMatch ((l.us.take x.1.toNat).map (fun r => r.match_)) 111, MapR b5 sE iE (putN eqs (fun r : SMirrorConf => r.name) (fun k : Nat => (k : Int)) l.xs l.xs.length), MapR b4 sE iE (putN eqs (fun r : SMeterConf => r.name) (fun k : Nat => (k : Int)) l.ms l.ms.length), Seps (Seps Emp (x0.R l)) xt.2, Var b3 ePlanPlan (⟨x0.c c.default, mapV b2, xt.1.ptr, nilPtr, x.2.2.1, x.2.2.2⟩ : SPlanPlan) 127, MapR b2 iE bE (portsP l), Var b1 eConf c 28]) (fun x : Int × OV × OV × OV => ((l.us.length : Int) - x.1).toNat) (0, nilSl, nilSl, nilSl) ?_ (fun x hx => ?_)
          · omega
          obtain ⟨i3, q, dv, vv⟩ := x
          have hi3 : 0 ≤ i3 ∧ i3 ≤ l.us.length := hx
          clear hx
          show Sat _ _ [dz, (1, true, .pointer (some ⟨b1, 0, none⟩)), (4, true, .pointer (some ⟨b3, 0, none⟩)), (8, true, .map (some b4)), (9, true, .map (some b5)), (14, true, (clo 44 []).v), (15, true, q.v), (79, true, c.rules.v), (80, true, I l.us.length), (81, true, I i3)] [OwnS vv.v eVerdict ((List.range i3.toNat).map (vdV l)) 60, OwnS dv.v (ovE nilIf) ((l.us.take i3.toNat).map (fun u => decO xt.1.ptr u.action u.out)) 141, OwnS q.v eMatch ((l.us.take i3.toNat).map (fun r => r.match_)) 111, MapR b5 sE iE (putN eqs (fun r : SMirrorConf => r.name) (fun k : Nat => (k : Int)) l.xs l.xs.length), MapR b4 sE iE (putN eqs (fun r : SMeterConf => r.name) (fun k : Nat => (k : Int)) l.ms l.ms.length), Seps (Seps Emp (x0.R l)) xt.2, Var b3 ePlanPlan (⟨x0.c c.default, mapV b2, xt.1.ptr, nilPtr, dv, vv⟩ : SPlanPlan) 127, MapR b2 iE bE (portsP l), Var b1 eConf c 28]
          have hq1 : ((l.us.take i3.toNat).map (fun r => r.match_)).length ≤ 256 := by simp; omega
          have hq2 : ((l.us.take i3.toNat).map (fun u => decO xt.1.ptr u.action u.out)).length ≤ 256 := by simp; omega
          have hq3 : ((List.range i3.toNat).map (vdV l)).length ≤ 256 := by simp; omega
          refine sg (co (Ev.lss_i (.t rfl) (.t rfl)) ?_)
          refine nP (seq ?_)
          first | refine condD rfl (fun h5 => ?_) (fun h5 => ?_) | refine cond rfl (fun h5 => ?_) (fun h5 => ?_)
          · try simp only [Gx.nb] at h5
            refine skip (pN (seq (block (sg (mv rfl (co (Ev.indexAddr Tryz.underlying24 ty113 (.t rfl) (.t rfl) (fun w I => (hc.keep0 I.keeps).us) (fun _ => zo)) ?_))))))
            refine co (Ev.loadS0 ty113 (.t rfl) (fun w I => (hc.keep0 I.keeps).us) (fun _ => zo)) ?_
            refine cons (alloc z113 (fun b8 => ?_))
            refine asn rfl (cons (stv ty113 (Lens.id _) (.t rfl) (.t rfl) ?_))
            refine nP (sg (mv rfl (co (fA 1 (.t rfl)) ?_)))
            refine co (Ev.ldv ty111 (.t rfl) SRule.l_match_) ?_
            refine cons (buildSlice (E := eMatch) Tryz.underlying139 ty111 z111 (.cons (.t rfl) .nil) rfl rfl (fun v9 => ?_))
            refine cons (app (E := eMatch) Tryz.underlying139 ty111 zb111 zs111 (.t rfl) (.t rfl) (fun v10 => ?_) (hby := ⟨by (show _ ≤ 9223372036854775807); first | omega | (simp; done) | (simp; omega), by first | omega | (simp; done) | (simp; omega)⟩))
            refine asn rfl (nP (cut (X := OV × OV) (fun x : OV × OV => True) (fun x : OV × OV => [dz, (1, true, .pointer (some ⟨b1, 0, none⟩)), (4, true, .pointer (some ⟨b3, 0, none⟩)), (8, true, .map (some b4)), (9, true, .map (some b5)), (14, true, (clo 44 []).v), (15, true, x.1.v), (16, true, I i3), (17, true, .pointer (some ⟨b8, 0, none⟩)), (79, true, c.rules.v), (80, true, I l.us.length), (81, true, I i3)]) (fun x : OV × OV => [Var b8 eRule (l.us.getD i3.toNat eRule.zero) 113, OwnS vv.v eVerdict ((List.range i3.toNat).map (vdV l)) 60, OwnS x.2.v (ovE nilIf) (((l.us.take i3.toNat).map (fun u => decO xt.1.ptr u.action u.out)) ++ [decO xt.1.ptr (l.us.getD i3.toNat eRule.zero).action (l.us.getD i3.toNat eRule.zero).out]) 141, OwnS x.1.v eMatch (((l.us.take i3.toNat).map (fun r => r.match_)) ++ [(l.us.getD i3.toNat eRule.zero).match_]) 111, MapR b5 sE iE (putN eqs (fun r : SMirrorConf => r.name) (fun k : Nat => (k : Int)) l.xs l.xs.length), MapR b4 sE iE (putN eqs (fun r : SMeterConf => r.name) (fun k : Nat => (k : Int)) l.ms l.ms.length), Seps (Seps Emp (x0.R l)) xt.2, Var b3 ePlanPlan (⟨x0.c c.default, mapV b2, xt.1.ptr, nilPtr, x.2, vv⟩ : SPlanPlan) 127, MapR b2 iE bE (portsP l), Var b1 eConf c 28]) ?_ (fun x hx => ?_)))
            · refine draw [Var b8 eRule (l.us.getD i3.toNat eRule.zero) 113] zk ?_
              refine tk 0 rfl (Ev.move (.t rfl)) ?_
              refine tk 1 rfl (Ev.move (.t rfl)) ?_
              refine tk 2 rfl (Ev.nilCheck (.t rfl)) ?_
              refine tk 3 rfl (fA 9 (.t rfl)) ?_
              refine tk 5 rfl (Ev.move (.t rfl)) ?_
              refine tk 6 rfl (fA 45 (.t rfl)) ?_
              refine tk 7 rfl (Ev.ldv ty3 (.t rfl) SRule.l_action) ?_
              refine tk 8 rfl (fA 46 (.t rfl)) ?_
              refine tk 9 rfl (Ev.ldv ty3 (.t rfl) SRule.l_out) ?_
              refine all [4, 10] zk (by decide) (.cons rfl ?_ (.cons rfl ?_ .nil))
              · refine (opv (Ev.to (v' := dv.v) (Ev.ldv ty124 (.t rfl) SPlanPlan.l_deciders) (rfl)) ?_)
                refine hdn (al1 10 rfl ((callv en45 (.cons (.t rfl) (.cons (.t rfl) (.cons (.t rfl) .nil))) (fun w I => decider_to b3 _ xt.1.ptr _ _ w (ptsVar (E' := ePlanPlan) zm (Lens.id _) w I) rfl) ?_)))
                refine hdn (al1 11 rfl ((buildSlice (E := (ovE nilIf)) Tryz.underlying124 ty141 z141 (.cons (.t rfl) .nil) rfl rfl (fun v11 => ?_))))
                refine hdn (al1 12 rfl ((app (E := (ovE nilIf)) Tryz.underlying124 ty141 zb141 zs141 (.t rfl) (.t rfl) (fun v12 => ?_) (hby := ⟨by (show _ ≤ 9223372036854775807); first | omega | (simp; done) | (simp; omega), by first | omega | (simp; done) | (simp; omega)⟩))))
                refine hdn (tk 13 rfl (Ev.nilCheck (.t rfl)) ?_)
                refine tk 14 rfl (fA 9 (.t rfl)) ?_
                refine al1 15 rfl ((stv ty124 SPlanPlan.l_deciders (.t rfl) (.t rfl) ?_))
                refine hdn (ovr (pN (mtP (X := OV × OV) (_, _) trivial)))
              · refine (callv en45 (.cons (.t rfl) (.cons (.t rfl) (.cons (.t rfl) .nil))) (fun w I => decider_to b3 _ xt.1.ptr _ _ w (ptsVar (E' := ePlanPlan) zm (Lens.id _) w I) rfl) ?_)
                refine hdn (all [4, 11] zk (by decide) (.cons rfl ?_ (.cons rfl ?_ .nil)))
                · refine (opv (Ev.to (v' := dv.v) (Ev.ldv ty124 (.t rfl) SPlanPlan.l_deciders) (rfl)) ?_)
                  refine hdn (al1 11 rfl ((buildSlice (E := (ovE nilIf)) Tryz.underlying124 ty141 z141 (.cons (.t rfl) .nil) rfl rfl (fun v13 => ?_))))
                  refine hdn (al1 12 rfl ((app (E := (ovE nilIf)) Tryz.underlying124 ty141 zb141 zs141 (.t rfl) (.t rfl) (fun v14 => ?_) (hby := ⟨by (show _ ≤ 9223372036854775807); first | omega | (simp; done) | (simp; omega), by first | omega | (simp; done) | (simp; omega)⟩))))
                  refine hdn (tk 13 rfl (Ev.nilCheck (.t rfl)) ?_)
                  refine tk 14 rfl (fA 9 (.t rfl)) ?_
                  refine al1 15 rfl ((stv ty124 SPlanPlan.l_deciders (.t rfl) (.t rfl) ?_))
                  refine hdn (ovr (pN (mtP (X := OV × OV) (_, _) trivial)))
                · refine (buildSlice (E := (ovE nilIf)) Tryz.underlying124 ty141 z141 (.cons (.t rfl) .nil) rfl rfl (fun v15 => ?_))
                  refine hdn (al1 4 rfl ((opv (Ev.to (v' := dv.v) (Ev.ldv ty124 (.t rfl) SPlanPlan.l_deciders) (rfl)) ?_)))
                  refine hdn (al1 12 rfl ((app (E := (ovE nilIf)) Tryz.underlying124 ty141 zb141 zs141 (.t rfl) (.t rfl) (fun v16 => ?_) (hby := ⟨by (show _ ≤ 9223372036854775807); first | omega | (simp; done) | (simp; omega), by first | omega | (simp; done) | (simp; omega)⟩))))
                  refine hdn (tk 13 rfl (Ev.nilCheck (.t rfl)) ?_)
                  refine tk 14 rfl (fA 9 (.t rfl)) ?_
                  refine al1 15 rfl ((stv ty124 SPlanPlan.l_deciders (.t rfl) (.t rfl) ?_))
                  refine hdn (ovr (pN (mtP (X := OV × OV) (_, _) trivial)))
            obtain ⟨q1, dv1⟩ := x
            show Sat _ _ [dz, (1, true, .pointer (some ⟨b1, 0, none⟩)), (4, true, .pointer (some ⟨b3, 0, none⟩)), (8, true, .map (some b4)), (9, true, .map (some b5)), (14, true, (clo 44 []).v), (15, true, q1.v), (16, true, I i3), (17, true, .pointer (some ⟨b8, 0, none⟩)), (79, true, c.rules.v), (80, true, I l.us.length), (81, true, I i3)] [Var b8 eRule (l.us.getD i3.toNat eRule.zero) 113, OwnS vv.v eVerdict ((List.range i3.toNat).map (vdV l)) 60, OwnS dv1.v (ovE nilIf) (((l.us.take i3.toNat).map (fun u => decO xt.1.ptr u.action u.out)) ++ [decO xt.1.ptr (l.us.getD i3.toNat eRule.zero).action (l.us.getD i3.toNat eRule.zero).out]) 141, OwnS q1.v eMatch (((l.us.take i3.toNat).map (fun r => r.match_)) ++ [(l.us.getD i3.toNat eRule.zero).match_]) 111, MapR b5 sE iE (putN eqs (fun r : SMirrorConf => r.name) (fun k : Nat => (k : Int)) l.xs l.xs.length), MapR b4 sE iE (putN eqs (fun r : SMeterConf => r.name) (fun k : Nat => (k : Int)) l.ms l.ms.length), Seps (Seps Emp (x0.R l)) xt.2, Var b3 ePlanPlan (⟨x0.c c.default, mapV b2, xt.1.ptr, nilPtr, dv1, vv⟩ : SPlanPlan) 127, MapR b2 iE bE (portsP l), Var b1 eConf c 28]
            refine draw [Var b8 eRule (l.us.getD i3.toNat eRule.zero) 113] zk ?_
            refine tk 0 rfl (Ev.move (.t rfl)) ?_
            refine tk 1 rfl (Ev.move (.t rfl)) ?_
            refine tk 2 rfl (Ev.nilCheck (.t rfl)) ?_
            refine tk 3 rfl (fA 10 (.t rfl)) ?_
            refine tk 5 rfl (Ev.to (v' := I ((i3.toNat : Nat) : Int)) (Ev.move (.t rfl)) (congrArg Gx.I (by omega))) ?_
            refine tk 6 rfl (Ev.move (.t rfl)) ?_
            refine tk 7 rfl (Ev.move (.t rfl)) ?_
            refine tk 8 rfl (fA 47 (.t rfl)) ?_
            refine tk 9 rfl (Ev.ldv ty9 (.t rfl) SRule.l_meter) ?_
            refine tk 11 rfl (Ev.move (.t rfl)) ?_
            refine tk 12 rfl (Ev.move (.t rfl)) ?_
            refine tk 13 rfl (fA 48 (.t rfl)) ?_
            refine tk 14 rfl (Ev.ldv ty9 (.t rfl) SRule.l_mirror) ?_
            refine all [4, 10] zk (by decide) (.cons rfl ?_ (.cons rfl ?_ .nil))
            · refine (opv (Ev.to (v' := vv.v) (Ev.ldv ty125 (.t rfl) SPlanPlan.l_verdicts) (rfl)) ?_)
              refine hdn (al1 10 rfl ((callcv (.t rfl) en44 (.cons (.t rfl) (.cons (.t rfl) .nil)) (fun w I => number_ok b4 _ _ _ w (mapAt_own zm w I) (name_num hgm _)) ?_)))
              refine hdn (al1 15 rfl ((callcv (.t rfl) en44 (.cons (.t rfl) (.cons (.t rfl) .nil)) (fun w I => number_ok b5 _ _ _ w (mapAt_own zm w I) (name_num hgx _)) ?_)))
              refine hdn (tk 16 rfl (Ev.buildS (fs := _) (places := [(0, 1), (1, 1), (2, 1), (3, 1), (4, 1)]) z60 rfl Tryz.underlying60 zk (.cons (.t rfl) (.cons (.t rfl) (.cons (.t rfl) .nil))) (Fills.cons SVerdict.l_rule rfl (Fills.cons SVerdict.l_meter rfl (Fills.cons SVerdict.l_mirror rfl Fills.nil)))) ?_)
              refine al1 17 rfl ((buildSlice (E := eVerdict) Tryz.underlying125 ty60 z60 (.cons (.t rfl) .nil) rfl rfl (fun v17 => ?_)))
              refine hdn (al1 18 rfl ((app (E := eVerdict) Tryz.underlying125 ty60 zb60 zs60 (.t rfl) (.t rfl) (fun v18 => ?_) (hby := ⟨by (show _ ≤ 9223372036854775807); first | omega | (simp; done) | (simp; omega), by first | omega | (simp; done) | (simp; omega)⟩))))
              refine hdn (tk 19 rfl (Ev.nilCheck (.t rfl)) ?_)
              refine tk 20 rfl (fA 10 (.t rfl)) ?_
              refine al1 21 rfl ((stv ty125 SPlanPlan.l_verdicts (.t rfl) (.t rfl) ?_))
              refine hdn (ovr (bN (pN (region (co (Ev.add_i (.t rfl) (.c (v := I 1) rfl) (fun _ => zo)) ?_)))))
              refine mv rfl (nP (nxP (X := Int × OV × OV × OV) (i3 + 1, _, _, _) ?_ ?_ (hL := (by rw [take_snoc l.us i3 hi3.1 (by omega) eRule.zero, List.map_append, List.map_append, vd_step l hi3.1]; repeat first | exact SubP.nil | refine SubP.cons zr ?_))))
              · try dsimp only
                omega
              · try dsimp only
                omega
            · refine (callcv (.t rfl) en44 (.cons (.t rfl) (.cons (.t rfl) .nil)) (fun w I => number_ok b4 _ _ _ w (mapAt_own zm w I) (name_num hgm _)) ?_)
              refine hdn (all [4, 15] zk (by decide) (.cons rfl ?_ (.cons rfl ?_ .nil)))
              · refine (opv (Ev.to (v' := vv.v) (Ev.ldv ty125 (.t rfl) SPlanPlan.l_verdicts) (rfl)) ?_)
                refine hdn (al1 15 rfl ((callcv (.t rfl) en44 (.cons (.t rfl) (.cons (.t rfl) .nil)) (fun w I => number_ok b5 _ _ _ w (mapAt_own zm w I) (name_num hgx _)) ?_)))
                refine hdn (tk 16 rfl (Ev.buildS (fs := _) (places := [(0, 1), (1, 1), (2, 1), (3, 1), (4, 1)]) z60 rfl Tryz.underlying60 zk (.cons (.t rfl) (.cons (.t rfl) (.cons (.t rfl) .nil))) (Fills.cons SVerdict.l_rule rfl (Fills.cons SVerdict.l_meter rfl (Fills.cons SVerdict.l_mirror rfl Fills.nil)))) ?_)
                refine al1 17 rfl ((buildSlice (E := eVerdict) Tryz.underlying125 ty60 z60 (.cons (.t rfl) .nil) rfl rfl (fun v19 => ?_)))
                refine hdn (al1 18 rfl ((app (E := eVerdict) Tryz.underlying125 ty60 zb60 zs60 (.t rfl) (.t rfl) (fun v20 => ?_) (hby := ⟨by (show _ ≤ 9223372036854775807); first | omega | (simp; done) | (simp; omega), by first | omega | (simp; done) | (simp; omega)⟩))))
                refine hdn (tk 19 rfl (Ev.nilCheck (.t rfl)) ?_)
                refine tk 20 rfl (fA 10 (.t rfl)) ?_
                refine al1 21 rfl ((stv ty125 SPlanPlan.l_verdicts (.t rfl) (.t rfl) ?_))
                refine hdn (ovr (bN (pN (region (co (Ev.add_i (.t rfl) (.c (v := I 1) rfl) (fun _ => zo)) ?_)))))
                refine mv rfl (nP (nxP (X := Int × OV × OV × OV) (i3 + 1, _, _, _) ?_ ?_ (hL := (by rw [take_snoc l.us i3 hi3.1 (by omega) eRule.zero, List.map_append, List.map_append, vd_step l hi3.1]; repeat first | exact SubP.nil | refine SubP.cons zr ?_))))
                · try dsimp only
                  omega
                · try dsimp only
                  omega
              · refine (callcv (.t rfl) en44 (.cons (.t rfl) (.cons (.t rfl) .nil)) (fun w I => number_ok b5 _ _ _ w (mapAt_own zm w I) (name_num hgx _)) ?_)
                refine hdn (tk 16 rfl (Ev.buildS (fs := _) (places := [(0, 1), (1, 1), (2, 1), (3, 1), (4, 1)]) z60 rfl Tryz.underlying60 zk (.cons (.t rfl) (.cons (.t rfl) (.cons (.t rfl) .nil))) (Fills.cons SVerdict.l_rule rfl (Fills.cons SVerdict.l_meter rfl (Fills.cons SVerdict.l_mirror rfl Fills.nil)))) ?_)
                refine all [4, 17] zk (by decide) (.cons rfl ?_ (.cons rfl ?_ .nil))
                · refine (opv (Ev.to (v' := vv.v) (Ev.ldv ty125 (.t rfl) SPlanPlan.l_verdicts) (rfl)) ?_)
                  refine hdn (al1 17 rfl ((buildSlice (E := eVerdict) Tryz.underlying125 ty60 z60 (.cons (.t rfl) .nil) rfl rfl (fun v21 => ?_))))
                  refine hdn (al1 18 rfl ((app (E := eVerdict) Tryz.underlying125 ty60 zb60 zs60 (.t rfl) (.t rfl) (fun v22 => ?_) (hby := ⟨by (show _ ≤ 9223372036854775807); first | omega | (simp; done) | (simp; omega), by first | omega | (simp; done) | (simp; omega)⟩))))
                  refine hdn (tk 19 rfl (Ev.nilCheck (.t rfl)) ?_)
                  refine tk 20 rfl (fA 10 (.t rfl)) ?_
                  refine al1 21 rfl ((stv ty125 SPlanPlan.l_verdicts (.t rfl) (.t rfl) ?_))
                  refine hdn (ovr (bN (pN (region (co (Ev.add_i (.t rfl) (.c (v := I 1) rfl) (fun _ => zo)) ?_)))))
                  refine mv rfl (nP (nxP (X := Int × OV × OV × OV) (i3 + 1, _, _, _) ?_ ?_ (hL := (by rw [take_snoc l.us i3 hi3.1 (by omega) eRule.zero, List.map_append, List.map_append, vd_step l hi3.1]; repeat first | exact SubP.nil | refine SubP.cons zr ?_))))
                  · try dsimp only
                    omega
                  · try dsimp only
                    omega
                · refine (buildSlice (E := eVerdict) Tryz.underlying125 ty60 z60 (.cons (.t rfl) .nil) rfl rfl (fun v23 => ?_))
                  refine hdn (al1 4 rfl ((opv (Ev.to (v' := vv.v) (Ev.ldv ty125 (.t rfl) SPlanPlan.l_verdicts) (rfl)) ?_)))
                  refine hdn (al1 18 rfl ((app (E := eVerdict) Tryz.underlying125 ty60 zb60 zs60 (.t rfl) (.t rfl) (fun v24 => ?_) (hby := ⟨by (show _ ≤ 9223372036854775807); first | omega | (simp; done) | (simp; omega), by first | omega | (simp; done) | (simp; omega)⟩))))
                  refine hdn (tk 19 rfl (Ev.nilCheck (.t rfl)) ?_)
                  refine tk 20 rfl (fA 10 (.t rfl)) ?_
                  refine al1 21 rfl ((stv ty125 SPlanPlan.l_verdicts (.t rfl) (.t rfl) ?_))
                  refine hdn (ovr (bN (pN (region (co (Ev.add_i (.t rfl) (.c (v := I 1) rfl) (fun _ => zo)) ?_)))))
                  refine mv rfl (nP (nxP (X := Int × OV × OV × OV) (i3 + 1, _, _, _) ?_ ?_ (hL := (by rw [take_snoc l.us i3 hi3.1 (by omega) eRule.zero, List.map_append, List.map_append, vd_step l hi3.1]; repeat first | exact SubP.nil | refine SubP.cons zr ?_))))
                  · try dsimp only
                    omega
                  · try dsimp only
                    omega
          · try simp only [Gx.nb] at h5
            refine exit (pX (pX (bX (pN (cut (X := OV) (fun x : OV => True) (fun x : OV => [dz, (1, true, .pointer (some ⟨b1, 0, none⟩)), (4, true, .pointer (some ⟨b3, 0, none⟩)), (15, true, q.v)]) (fun x : OV => [OwnS x.v (ovE nilIf) (decL xt.1.ptr l c.default) 141, OwnS vv.v eVerdict ((List.range l.us.length).map (vdV l)) 60, OwnS q.v eMatch (mtL l) 111, MapR b5 sE iE (putN eqs (fun r : SMirrorConf => r.name) (fun k : Nat => (k : Int)) l.xs l.xs.length), MapR b4 sE iE (putN eqs (fun r : SMeterConf => r.name) (fun k : Nat => (k : Int)) l.ms l.ms.length), Seps (Seps Emp (x0.R l)) xt.2, Var b3 ePlanPlan (⟨x0.c c.default, mapV b2, xt.1.ptr, nilPtr, x, vv⟩ : SPlanPlan) 127, MapR b2 iE bE (portsP l), Var b1 eConf c 28]) ?_ (fun x hx => ?_))))))
            · have e3 : i3.toNat = l.us.length := by omega
              rw [e3, List.take_length]
              refine draw [Var b1 eConf c 28] zk ?_
              refine tk 0 rfl (Ev.move (.t rfl)) ?_
              refine tk 1 rfl (Ev.move (.t rfl)) ?_
              refine tk 2 rfl (Ev.nilCheck (.t rfl)) ?_
              refine tk 3 rfl (fA 9 (.t rfl)) ?_
              refine tk 5 rfl (Ev.move (.t rfl)) ?_
              refine tk 6 rfl (fA 5 (.t rfl)) ?_
              refine tk 7 rfl (Ev.ldv ty3 (.t rfl) SConf.l_default) ?_
              refine all [4, 8] zk (by decide) (.cons rfl ?_ (.cons rfl ?_ .nil))
              · refine (opv (Ev.to (v' := dv.v) (Ev.ldv ty124 (.t rfl) SPlanPlan.l_deciders) (rfl)) ?_)
                refine hdn (al1 8 rfl ((callv en45 (.cons (.t rfl) (.cons (.t rfl) (.cons (.c (v := I 0) rfl) .nil))) (fun w I => decider_to b3 _ xt.1.ptr _ _ w (ptsVar (E' := ePlanPlan) zm (Lens.id _) w I) rfl) ?_)))
                refine hdn (al1 9 rfl ((buildSlice (E := (ovE nilIf)) Tryz.underlying124 ty141 z141 (.cons (.t rfl) .nil) rfl rfl (fun v25 => ?_))))
                refine hdn (al1 10 rfl ((app (E := (ovE nilIf)) Tryz.underlying124 ty141 zb141 zs141 (.t rfl) (.t rfl) (fun v26 => ?_) (hby := ⟨by (show _ ≤ 9223372036854775807); first | omega | (simp; done) | (simp; omega), by first | omega | (simp; done) | (simp; omega)⟩))))
                refine hdn (tk 11 rfl (Ev.nilCheck (.t rfl)) ?_)
                refine tk 12 rfl (fA 9 (.t rfl)) ?_
                refine al1 13 rfl ((stv ty124 SPlanPlan.l_deciders (.t rfl) (.t rfl) ?_))
                refine hdn (ovr (pN (mtP (X := OV) (_) trivial)))
              · refine (callv en45 (.cons (.t rfl) (.cons (.t rfl) (.cons (.c (v := I 0) rfl) .nil))) (fun w I => decider_to b3 _ xt.1.ptr _ _ w (ptsVar (E' := ePlanPlan) zm (Lens.id _) w I) rfl) ?_)
                refine hdn (all [4, 9] zk (by decide) (.cons rfl ?_ (.cons rfl ?_ .nil)))
                · refine (opv (Ev.to (v' := dv.v) (Ev.ldv ty124 (.t rfl) SPlanPlan.l_deciders) (rfl)) ?_)
                  refine hdn (al1 9 rfl ((buildSlice (E := (ovE nilIf)) Tryz.underlying124 ty141 z141 (.cons (.t rfl) .nil) rfl rfl (fun v27 => ?_))))
                  refine hdn (al1 10 rfl ((app (E := (ovE nilIf)) Tryz.underlying124 ty141 zb141 zs141 (.t rfl) (.t rfl) (fun v28 => ?_) (hby := ⟨by (show _ ≤ 9223372036854775807); first | omega | (simp; done) | (simp; omega), by first | omega | (simp; done) | (simp; omega)⟩))))
                  refine hdn (tk 11 rfl (Ev.nilCheck (.t rfl)) ?_)
                  refine tk 12 rfl (fA 9 (.t rfl)) ?_
                  refine al1 13 rfl ((stv ty124 SPlanPlan.l_deciders (.t rfl) (.t rfl) ?_))
                  refine hdn (ovr (pN (mtP (X := OV) (_) trivial)))
                · refine (buildSlice (E := (ovE nilIf)) Tryz.underlying124 ty141 z141 (.cons (.t rfl) .nil) rfl rfl (fun v29 => ?_))
                  refine hdn (al1 4 rfl ((opv (Ev.to (v' := dv.v) (Ev.ldv ty124 (.t rfl) SPlanPlan.l_deciders) (rfl)) ?_)))
                  refine hdn (al1 10 rfl ((app (E := (ovE nilIf)) Tryz.underlying124 ty141 zb141 zs141 (.t rfl) (.t rfl) (fun v30 => ?_) (hby := ⟨by (show _ ≤ 9223372036854775807); first | omega | (simp; done) | (simp; omega), by first | omega | (simp; done) | (simp; omega)⟩))))
                  refine hdn (tk 11 rfl (Ev.nilCheck (.t rfl)) ?_)
                  refine tk 12 rfl (fA 9 (.t rfl)) ?_
                  refine al1 13 rfl ((stv ty124 SPlanPlan.l_deciders (.t rfl) (.t rfl) ?_))
                  refine hdn (ovr (pN (mtP (X := OV) (_) trivial)))
            obtain ⟨dfin, rfl⟩ : ∃ y, y = x := ⟨x, rfl⟩
            show Sat _ _ [dz, (1, true, .pointer (some ⟨b1, 0, none⟩)), (4, true, .pointer (some ⟨b3, 0, none⟩)), (15, true, q.v)] [OwnS dfin.v (ovE nilIf) (decL xt.1.ptr l c.default) 141, OwnS vv.v eVerdict ((List.range l.us.length).map (vdV l)) 60, OwnS q.v eMatch (mtL l) 111, MapR b5 sE iE (putN eqs (fun r : SMirrorConf => r.name) (fun k : Nat => (k : Int)) l.xs l.xs.length), MapR b4 sE iE (putN eqs (fun r : SMeterConf => r.name) (fun k : Nat => (k : Int)) l.ms l.ms.length), Seps (Seps Emp (x0.R l)) xt.2, Var b3 ePlanPlan (⟨x0.c c.default, mapV b2, xt.1.ptr, nilPtr, dfin, vv⟩ : SPlanPlan) 127, MapR b2 iE bE (portsP l), Var b1 eConf c 28]
            refine sg (mv rfl (mv rfl (co (Ev.nilCheck (.t rfl)) ?_)))
            refine co (fA 10 (.t rfl)) ?_
            refine co (Ev.to (v' := vv.v) (Ev.ldv ty125 (.t rfl) SPlanPlan.l_verdicts) (rfl)) ?_
            refine co (Ev.buildS (fs := _) (places := [(0, 1), (1, 1), (2, 1), (3, 1), (4, 1)]) z60 rfl Tryz.underlying60 zk (.cons (.c (v := I (-1)) rfl) (.cons (.c (v := I (-1)) rfl) (.cons (.c (v := I (-1)) rfl) .nil))) (Fills.cons SVerdict.l_rule rfl (Fills.cons SVerdict.l_meter rfl (Fills.cons SVerdict.l_mirror rfl Fills.nil)))) ?_
            refine cons (buildSlice (E := eVerdict) Tryz.underlying125 ty60 z60 (.cons (.t rfl) .nil) rfl rfl (fun v31 => ?_))
            refine cons (app (E := eVerdict) Tryz.underlying125 ty60 zb60 zs60 (.t rfl) (.t rfl) (fun v32 => ?_) (hby := ⟨by (show _ ≤ 9223372036854775807); first | omega | (simp; done) | (simp; omega), by first | omega | (simp; done) | (simp; omega)⟩))
            refine co (Ev.nilCheck (.t rfl)) ?_
            refine co (fA 10 (.t rfl)) ?_
            refine cons (stv ty125 SPlanPlan.l_verdicts (.t rfl) (.t rfl) ?_)
            refine nP (seq (sg (mv rfl (mv rfl (cons (calln (X := Nat × List Res) (CompJ (mtL l)) (compV (mtL l)) (fun x => x.2) en46 (.cons (.t rfl) .nil) (fun w I => compile_ok _ (mtL l) w (io w I)) (fun xr hxr => ?_)))))))
            refine mv rfl (co (Ev.to (v' := (ptrV xr.1).v) (Ev.extract (.t rfl) rfl) (congrArg Value.pointer (ptrO_ok xr.1 hcomp))) ?_)
            refine co (Ev.to (v' := I 0) (Ev.extract (.t rfl) rfl) (congrArg Gx.I hcomp)) ?_
            refine co (Ev.nilCheck (.t rfl)) ?_
            refine co (fA 8 (.t rfl)) ?_
            refine cons (stv ty123 SPlanPlan.l_rules (.t rfl) (.t rfl) ?_)
            refine asn rfl (nP (seq (takeSeps (r := Seps (Seps Emp (x0.R l)) xt.2) zr ?_)))
            refine region (mv rfl (co (Ev.neq_i (.t rfl) (.c (v := I 0) rfl)) ?_))
            refine nP (condF rfl (rfl) ?_)
            refine skip (pN (sg (mv rfl (asn rfl (co (Ev.assign (.c (v := I 0) rfl)) ?_)))))
            refine nP (ret (done rfl (.tmp rfl (.tmp rfl .nil)) (fun w I => ?_)))
            refine retNP (⟨b3, x0, b2, xt.1, xr.1, dfin, v32⟩, [Seps (Seps (Seps Emp (x0.R l)) xt.2) xr.2, Var b3 ePlanPlan (⟨x0.c c.default, mapV b2, xt.1.ptr, ptrV xr.1, dfin, v32⟩ : SPlanPlan) 127, MapR b2 iE bE (portsP l), OwnS dfin.v (ovE nilIf) (decL xt.1.ptr l c.default) 141, OwnS v32.v eVerdict (vdL l) 60]) (fun _ => ⟨⟨hmay, hok, hen⟩, fun w1 hw1 => ?_⟩) ?_ (by repeat first | exact SubP.nil | refine SubP.cons zr ?_) w I
            · show _ = Value.tuple #[.pointer (plO l c.default _), Gx.I (plE l c.default)]
              unfold plO plE
              rw [hmay]
              rfl
            · obtain ⟨a1, a2⟩ := Seps.A _ _ (hw1 _ List.mem_cons_self)
              obtain ⟨a3, a4⟩ := Seps.A _ _ a1
              obtain ⟨_, a5⟩ := Seps.A _ _ a3
              exact ⟨pts_of_block (hw1 _ (List.mem_cons_of_mem _ List.mem_cons_self)), ⟨IsSl.of_own (a5 (OwnS x0.o1.v iE l.ps 3) (by simp [CB.R])), IsSl.of_own (a5 (OwnS x0.o2.v eRoute l.rs 172) (by simp [CB.R])), IsSl.of_own (a5 (OwnS x0.o3.v eRule l.us 113) (by simp [CB.R])), IsSl.of_own (a5 (OwnS x0.o4.v eMeterConf l.ms 134) (by simp [CB.R])), IsSl.of_own (a5 (OwnS x0.o5.v eMirrorConf l.xs 136) (by simp [CB.R]))⟩, hw1 _ (List.mem_cons_of_mem _ (List.mem_cons_of_mem _ List.mem_cons_self)), htr w1 a4, hxr hcomp w1 a2, IsSl.of_own (hw1 _ (List.mem_cons_of_mem _ (List.mem_cons_of_mem _ (List.mem_cons_of_mem _ List.mem_cons_self)))), IsSl.of_own (hw1 _ (List.mem_cons_of_mem _ (List.mem_cons_of_mem _ (List.mem_cons_of_mem _ (List.mem_cons_of_mem _ List.mem_cons_self)))))⟩
end Go.Proofs.YtakmoeladkajdaaGreat
namespace Go.Proofs.YtakmoeladkajdaaGreat
open Go Go.Gx Go.Proofs.YtakmoeladkajdaaGreat.Tri
def deE (h : SHeader) (c : Int) : Int := if checkH h c = 2 then 2 else 0
def dvV (l : CL) (d n : Int) (h : SHeader) (c : Int) : SVerdict := if checkH h c = 2 then eVerdict.zero else decV l d n h
theorem vdL_len (l : CL) : (vdL l).length = l.us.length + 1 := by simp [vdL]
theorem decL_len (r : OV) (l : CL) (d : Int) : (decL r l d).length = l.us.length + 1 := by simp [decL]
theorem ruleI_lt {l : CL} {n : Int} {h : SHeader} (hm : metI l n h < 0) : ruleI l n h = l.us.length := by
  unfold ruleI
  rw [if_pos hm]
theorem ruleI_ge {l : CL} {n : Int} {h : SHeader} (hm : ¬ metI l n h < 0) : ((ruleI l n h : Nat) : Int) = metI l n h := by
  unfold ruleI
  rw [if_neg hm]
  omega
theorem decL_at (r : OV) (l : CL) (d : Int) {k : Nat} (hk : k ≤ l.us.length) (z : OV) : (decL r l d).getD k z = decO r (actI l d k).1 (actI l d k).2 := by
  unfold decL actI
  by_cases e : k < l.us.length
  · rw [if_pos e]
    simp [List.getD, List.getElem?_append, e]
  · obtain rfl : k = l.us.length := by omega
    rw [if_neg e]
    simp [List.getD, List.getElem?_append]
theorem decV_yes {l : CL} {d n : Int} {h : SHeader} (hp : l.ps.any (fun x => decide (n = x)) = true) : decV l d n h = { (vdL l).getD (ruleI l n h) eVerdict.zero with action := (actO l.rs (actI l d (ruleI l n h)).1 (actI l d (ruleI l n h)).2 h.dst).1, out := (actO l.rs (actI l d (ruleI l n h)).1 (actI l d (ruleI l n h)).2 h.dst).2 } := by
  unfold decV
  rw [if_pos hp]
theorem decV_no {l : CL} {d n : Int} {h : SHeader} (hp : l.ps.any (fun x => decide (n = x)) = false) : decV l d n h = dropV := by
  unfold decV
  rw [if_neg (by rw [hp]; exact Bool.false_ne_true)]
theorem en54 : Gx.Enters Tryz.prog 54 := Gx.Enters.mk' zk
theorem en55 : Gx.Enters Tryz.prog 55 := Gx.Enters.mk' zk
theorem z4 : (Tryz.prog.info? 4).bind (·.zero) = some (bE.val bE.zero) := by kernel_rfl
theorem en56 : Gx.Enters Tryz.prog 56 := Gx.Enters.mk' zk
set_option maxRecDepth 8000 in
theorem decide_ok (p : Pl) (l : CL) (d n : Int) (h : SHeader) (dt : List UInt8) (w : World) (hp : PlanAt w p l d) (ho : PlanOK p l d) (hd : IsSl u8E w h.data.v dt) (hl : dt.length ≤ 1152921504606846975) : Calls Tryz.prog 31 #[.pointer (some ⟨p.b, 0, none⟩), I n, eHeader.val h] w (RetV w (.tuple #[eVerdict.val (dvV l d n h dt.length), I (deE h dt.length)])) := by
  have hlens := may_lens ho.may
  refine en0 62 Tryz.func31 ?_
  refine sg (cons (box (E := eHeader) (.t rfl) (fun b1 => ?_)))
  refine cons (alloc z60 (fun b2 => ?_))
  refine co (Ev.assign (.c (v := I 0) rfl)) ?_
  refine nP (seq (sg (mv rfl (cons (callv en54 (.cons (.t rfl) .nil) (fun w I => pthere_ok p.b (p.val d) p.pm w (hp.pt.keep I.keeps) rfl) ?_)))))
  refine co (Ev.not (.t rfl)) ?_
  refine nP (condF rfl (rfl) ?_)
  refine skip (pN (seq (sg (co (Ev.ldx h ty93 (.t rfl) (Lens.id _)) ?_))))
  refine cons (callv en55 (.cons (.t rfl) .nil) (fun w I => pcheck_ok h dt w (hd.keep0 I.keeps) hl) ?_)
  refine co (Ev.eql_i (.t rfl) (.c (v := I 2) rfl)) ?_
  refine nP ?_
  first | refine condD rfl (fun h1 => ?_) (fun h1 => ?_) | refine cond rfl (fun h1 => ?_) (fun h1 => ?_)
  · refine sg (co (Ev.buildS (fs := _) (places := [(0, 1), (1, 1), (2, 1), (3, 1), (4, 1)]) z60 rfl Tryz.underlying60 zk .nil Fills.nil) ?_)
    refine cons (stv ty60 (Lens.id _) (.t rfl) (.t rfl) ?_)
    refine co (Ev.assign (.c (v := I 2) rfl)) ?_
    refine nP (ret (pR (done rfl (.cell rfl (fun w I => run_loadVar_pts ty60 (ptsVar zm (Lens.id _) w I)) (.tmp rfl .nil)) (retE ?_))))
    have e1 : deE h dt.length = 2 := by unfold deE; rw [if_pos h1]
    have e2 : dvV l d n h dt.length = eVerdict.zero := by unfold dvV; rw [if_pos h1]
    rw [e1, e2]; rfl
  · refine skip (pN (seq (sg (mv rfl (co (Ev.nilCheck (.t rfl)) ?_)))))
    refine co (fA 6 (.t rfl)) ?_
    refine co (Ev.to (v' := .map (some p.pm)) (Ev.load ty121 (.t rfl) (ptsL (fun w I => (hp).pt.keep I.keeps) SPlanPlan.l_ports)) (rfl)) ?_
    refine mv rfl (co (Ev.lookupFV (V := bE) Tryz.underlying121 Tryz.underlying3 key3 z4 (.t rfl) (.t rfl) (fun _ => (fun w I => hp.pm.keep0 I.keeps))) ?_)
    refine co (Ev.not (.t rfl)) ?_
    refine nP ?_
    first | refine condD rfl (fun h2 => ?_) (fun h2 => ?_) | refine cond rfl (fun h2 => ?_) (fun h2 => ?_)
    · have hps : l.ps.any (fun x => decide (n = x)) = false := by
        rw [← portsP_any]
        have h9 : (!(Gx.findV eqd n (portsP l)).getD false) = true := h2
        simpa using h9
      refine sg (co (Ev.buildS (fs := _) (places := [(0, 1), (1, 1), (2, 1), (3, 1), (4, 1)]) z60 rfl Tryz.underlying60 zk (.cons (.c (v := I 2) rfl) (.cons (.c (v := I (-1)) rfl) (.cons (.c (v := I (-1)) rfl) (.cons (.c (v := I (-1)) rfl) (.cons (.c (v := I (-1)) rfl) .nil))))) (Fills.cons SVerdict.l_action rfl (Fills.cons SVerdict.l_out rfl (Fills.cons SVerdict.l_rule rfl (Fills.cons SVerdict.l_meter rfl (Fills.cons SVerdict.l_mirror rfl Fills.nil)))))) ?_)
      refine cons (stv ty60 (Lens.id _) (.t rfl) (.t rfl) ?_)
      refine co (Ev.assign (.c (v := I 0) rfl)) ?_
      refine nP (ret (pR (done rfl (.cell rfl (fun w I => run_loadVar_pts ty60 (ptsVar zm (Lens.id _) w I)) (.tmp rfl .nil)) (retE ?_))))
      have e1 : deE h dt.length = 0 := by unfold deE; rw [if_neg h1]
      have e2 : dvV l d n h dt.length = decV l d n h := by unfold dvV; rw [if_neg h1]
      rw [e1, e2, decV_no hps]; rfl
    · have hps : l.ps.any (fun x => decide (n = x)) = true := by
        rw [← portsP_any]
        have h9 : (!(Gx.findV eqd n (portsP l)).getD false) = false := h2
        simpa using h9
      refine skip (pN (seq (draw' zk ?_)))
      refine tk 0 rfl (Ev.move (.t rfl)) ?_
      refine tk 1 rfl (Ev.nilCheck (.t rfl)) ?_
      refine tk 2 rfl (fA 8 (.t rfl)) ?_
      refine tk 3 rfl (Ev.to (v' := .pointer (some ⟨p.rb, 0, none⟩)) (Ev.load ty123 (.t rfl) (ptsL (fun w I => (hp).pt.keep I.keeps) SPlanPlan.l_rules)) (rfl)) ?_
      refine tk 4 rfl (Ev.move (.t rfl)) ?_
      refine tk 5 rfl (Ev.ldx h ty93 (.t rfl) (Lens.id _)) ?_
      refine al1 6 rfl ((callv en56 (.cons (.t rfl) (.cons (.t rfl) (.cons (.t rfl) .nil))) (fun w I => first_ok p.rb (mtL l) n h w (hp.ru.keep I.keeps)) ?_))
      refine hdn (tk 7 rfl (Ev.to (v' := I (metI l n h)) (Ev.assign (.t rfl)) (rfl)) ?_)
      refine ovr (pN (cut (X := Int) (fun x : Int => (x = ((ruleI l n h : Nat) : Int))) (fun x : Int => [dz, (0, true, .pointer (some ⟨p.b, 0, none⟩)), (5, true, .pointer (some ⟨b1, 0, none⟩)), (6, true, .pointer (some ⟨b2, 0, none⟩)), (7, true, I 0), (8, true, I x)]) (fun x : Int => [Var b2 eVerdict eVerdict.zero 60, Var b1 eHeader h 93]) ?_ (fun x hx => ?_)))
      · refine sg (mv rfl (co (Ev.lss_i (.t rfl) (.c (v := I 0) rfl)) ?_))
        refine nP ?_
        first | refine condD rfl (fun h3 => ?_) (fun h3 => ?_) | refine cond rfl (fun h3 => ?_) (fun h3 => ?_)
        · try simp only [Gx.nb] at h3
          refine region (mv rfl (co (Ev.nilCheck (.t rfl)) ?_))
          refine co (fA 10 (.t rfl)) ?_
          refine co (Ev.to (v' := p.vv.v) (Ev.load ty125 (.t rfl) (ptsL (fun w I => (hp).pt.keep I.keeps) SPlanPlan.l_verdicts)) (rfl)) ?_
          refine co (Ev.len Tryz.underlying125 (.t rfl) (fun w I => hp.vs.keep0 I.keeps)) ?_
          refine co (Ev.sub_i (.t rfl) (.c (v := I 1) rfl) (fun _ => by rw [vdL_len]; omega)) ?_
          refine asn rfl (nP (mt (X := Int) (_) ?_))
          · try dsimp only
            first | (rw [ruleI_lt h3, vdL_len]; omega) | exact (ruleI_ge h3).symm
        · try simp only [Gx.nb] at h3
          refine skip (pN (mt (X := Int) (_) ?_))
          · try dsimp only
            first | (rw [ruleI_lt h3, vdL_len]; omega) | exact (ruleI_ge h3).symm
      obtain ⟨k, rfl⟩ : ∃ y, y = x := ⟨x, rfl⟩
      have hk : k = ((ruleI l n h : Nat) : Int) := hx
      clear hx
      show Sat _ _ [dz, (0, true, .pointer (some ⟨p.b, 0, none⟩)), (5, true, .pointer (some ⟨b1, 0, none⟩)), (6, true, .pointer (some ⟨b2, 0, none⟩)), (7, true, I 0), (8, true, I k)] [Var b2 eVerdict eVerdict.zero 60, Var b1 eHeader h 93]
      obtain ⟨r, hr⟩ : ∃ r, ruleI l n h = r := ⟨_, rfl⟩
      have hrl : r ≤ l.us.length := by rw [← hr]; exact ruleI_le l n h
      have er : ((r : Nat) : Int).toNat = r := by omega
      have hvl := vdL_len l
      have hdl := decL_len p.tr.ptr l d
      rw [hr] at hk
      subst hk
      refine sg (mv rfl (co (Ev.nilCheck (.t rfl)) ?_))
      refine co (fA 10 (.t rfl)) ?_
      refine co (Ev.to (v' := p.vv.v) (Ev.load ty125 (.t rfl) (ptsL (fun w I => (hp).pt.keep I.keeps) SPlanPlan.l_verdicts)) (rfl)) ?_
      refine mv rfl (co (Ev.indexAddr Tryz.underlying125 ty60 (.t rfl) (.t rfl) (fun w I => hp.vs.keep0 I.keeps) (fun _ => zo)) ?_)
      refine co (Ev.to (v' := eVerdict.val ((vdL l).getD r eVerdict.zero)) (Ev.loadS0 ty60 (.t rfl) (fun w I => hp.vs.keep0 I.keeps) (fun _ => by omega)) (by rw [er])) ?_
      refine cons (alloc z60 (fun b3 => ?_))
      refine cons (stv ty60 (Lens.id _) (.t rfl) (.t rfl) ?_)
      refine nP (sg (mv rfl (co (Ev.nilCheck (.t rfl)) ?_)))
      refine co (fA 9 (.t rfl)) ?_
      refine co (Ev.to (v' := p.dv.v) (Ev.load ty124 (.t rfl) (ptsL (fun w I => (hp).pt.keep I.keeps) SPlanPlan.l_deciders)) (rfl)) ?_
      refine mv rfl (co (Ev.indexAddr Tryz.underlying124 ty141 (.t rfl) (.t rfl) (fun w I => hp.ds.keep0 I.keeps) (fun _ => zo)) ?_)
      refine co (Ev.to (v' := (decO p.tr.ptr (actI l d r).1 (actI l d r).2).v) (Ev.loadS0 ty141 (.t rfl) (fun w I => hp.ds.keep0 I.keeps) (fun _ => by omega)) (congrArg OV.v (by rw [er]; exact decL_at p.tr.ptr l d hrl _))) ?_
      refine cons (callIf (.t rfl) (.cons (.t rfl) .nil) (fun w I => decide_if p.tr l _ _ b1 h w (ptsVar (E' := eHeader) zm (Lens.id _) w I) (hp.tr.keep I.keeps) ho.ok (ho.route h.dst)) ?_)
      refine mv rfl (co (Ev.extract (.t rfl) rfl) (co (Ev.extract (.t rfl) rfl) (co (fA 0 (.t rfl)) ?_)))
      refine cons (stv ty3 SVerdict.l_action (.t rfl) (.t rfl) ?_)
      refine co (fA 1 (.t rfl)) ?_
      refine cons (stv ty3 SVerdict.l_out (.t rfl) (.t rfl) ?_)
      refine nP (sg (co (Ev.ldv ty60 (.t rfl) (Lens.id _)) ?_))
      refine cons (stv ty60 (Lens.id _) (.t rfl) (.t rfl) ?_)
      refine co (Ev.assign (.c (v := I 0) rfl)) ?_
      refine nP (ret (done rfl (.cell rfl (fun w I => run_loadVar_pts ty60 (ptsVar zm (Lens.id _) w I)) (.tmp rfl .nil)) (retE ?_)))
      have e1 : deE h dt.length = 0 := by unfold deE; rw [if_neg h1]
      have e2 : dvV l d n h dt.length = decV l d n h := by unfold dvV; rw [if_neg h1]
      rw [e1, e2, decV_yes hps, hr]; rfl
end Go.Proofs.YtakmoeladkajdaaGreat
namespace Go.Proofs.YtakmoeladkajdaaGreat.Oc
open Go Go.Gx Go.Proofs.YtakmoeladkajdaaGreat.Tri
def putB : Nat → UInt64 → List UInt8
  | 0, _ => []
  | n + 1, v => (shr64 v (8 * n)).toUInt8 :: putB n v
theorem putB_length (n : Nat) (v : UInt64) : (putB n v).length = n := by
  induction n with
  | zero => rfl
  | succ n ih => simp [putB, ih]
theorem width_uint8_ok (w : World) : Calls Tryz.prog 147 #[] w (RetV w (I 1)) := by
  refine en0 13 Tryz.func147 ?_
  refine sg (co (Ev.assign (.c (v := I 0) rfl)) ?_)
  refine nP (sg (co (Ev.assign (.c (v := I 0) rfl)) ?_))
  refine nP (seq (sg (co (Ev.conv_i_u8 Tryz.underlying5 Tryz.underlying3 (.c (v := I 0) rfl)) ?_)))
  refine co (Ev.compl_u8 (.t rfl)) ?_
  refine co (Ev.conv_u8_u64 Tryz.underlying35 Tryz.underlying5 (.t rfl)) ?_
  refine asn rfl (nP (block (lp (X := Nat × UInt64) (fun x : Nat × UInt64 => (x.1 ≤ 1) ∧ (x.2.toNat + 1 = 256 ^ (1 - x.1))) (fun x : Nat × UInt64 => [dz, (0, true, I 0), (1, true, I x.1), (2, true, U64 x.2)]) (fun x : Nat × UInt64 => []) (fun x : Nat × UInt64 => 1 - x.1) (0, _) ⟨?_, ?_⟩ (fun x hx => ?_))))
  · omega
  · decide
  obtain ⟨k, t⟩ := x
  obtain ⟨hk, ht⟩ : (k ≤ 1) ∧ (t.toNat + 1 = 256 ^ (1 - k)) := hx
  show Sat _ _ [dz, (0, true, I 0), (1, true, I k), (2, true, U64 t)] []
  refine seq (sg (mv rfl (co (Ev.gtr_u64 (.t rfl) (.c (v := U64 0) rfl)) ?_)))
  refine nP ?_
  first | refine condD rfl (fun h0 => ?_) (fun h0 => ?_) | refine cond rfl (fun h0 => ?_) (fun h0 => ?_)
  · try simp only [Gx.nb] at h0
    have hkn : k < 1 := by
      rcases Nat.lt_or_ge k 1 with h | h
      · exact h
      · have e : k = 1 := by omega
        subst e
        simp [UInt64.lt_iff_toNat_lt] at h0 ht
        omega
    refine skip (pN (seq (block (region (mv rfl (co (Ev.add_i (.t rfl) (.c (v := I 1) rfl) (fun _ => zo)) ?_))))))
    refine asn rfl (nil (bN (pN (region (mv rfl (co (Ev.shr_u64 (.t rfl) (.c rfl) (fun _ => by decide)) ?_))))))
    refine asn rfl (nP (nx (X := Nat × UInt64) (k + 1, shr64 t 8) ⟨?_, ?_⟩ ?_))
    · try dsimp only
      omega
    · try dsimp only
      rw [toNat_shr64]; have e : 1 - k = (1 - (k + 1)) + 1 := by omega
      rw [e, Nat.pow_succ] at ht
      omega
    · try dsimp only
      first | omega | (simp; omega)
  · try simp only [Gx.nb] at h0
    have hkn : k = 1 := by
      rcases Nat.lt_or_ge k 1 with h | h
      · have e : 1 - k = (1 - (k + 1)) + 1 := by omega
        have hp : 0 < 256 ^ (1 - (k + 1)) := Nat.pow_pos (by decide)
        rw [e, Nat.pow_succ] at ht
        simp [UInt64.lt_iff_toNat_lt] at h0
        omega
      · omega
    subst hkn
    refine exit (pX (pX (bX (pN (sg (mv rfl (asn rfl (nP (ret (done rfl (.tmp rfl .nil) (retE ?_)))))))))))
    first | rfl | (simp; done)
theorem zb5 : (Tryz.prog.info? 5).map (fun i => (i.zero, i.bytes)) = some (some (u8E.val u8E.zero), 1) := by kernel_rfl
theorem zs5 : (u8E.val u8E.zero).cells.size = u8E.size := by rw [Enc.cells_val, List.size_toArray, Enc.len]
theorem en147 : Gx.Enters Tryz.prog 147 := Gx.Enters.mk' zk
theorem z5 : (Tryz.prog.info? 5).bind (·.zero) = some (u8E.val u8E.zero) := by kernel_rfl
theorem put_uint8_ok (u : Value) (b : List UInt8) (v : UInt8) (w : World) (hb : IsSl u8E w u b) (hl : b.length + 1 ≤ 140737488355328) :
    Calls Tryz.prog 117 #[u, U8 v] w (RetO w u8E (b ++ putB 1 v.toUInt64) 5) := by
  have hbl := hb.le
  refine en0 34 Tryz.func117 ?_
  refine sg (co (Ev.assign (.c (v := (Go.Value.slice none 0 0)) rfl)) ?_)
  refine nP (sg (cons (callv en147 .nil (fun w I => width_uint8_ok w) ?_)))
  refine asn rfl (nP (sg (mv rfl (co (Ev.len Tryz.underlying63 (.t rfl) zf) ?_))))
  refine mv rfl (co (Ev.len Tryz.underlying63 (.t rfl) zf) ?_)
  refine mv rfl (co (Ev.add_i (.t rfl) (.t rfl) (fun _ => zo)) ?_)
  refine cons (makeSl (E := u8E) Tryz.underlying63 ty5 rfl zb5 (.t rfl) (.t rfl) ⟨by omega, by omega⟩ ⟨by omega, by omega⟩ (fun o1 => ?_))
  refine asn rfl (nP (sg (mv rfl (mv rfl (cons (copyO (E := u8E) Tryz.underlying63 ty5 (.t rfl) (.t rfl) (by repeat first | exact Upd.head | apply Upd.tail) (fun w I => hb.keep0 I.keeps) ?_))))))
  refine nP (seq (sg (mv rfl (co (Ev.sub_i (.t rfl) (.c (v := I 1) rfl) (fun _ => zo)) ?_))))
  refine asn rfl (nP (block ?_))
  have e1 : (List.replicate (Int.toNat (b.length : Int)) u8E.zero) = List.replicate b.length (0 : UInt8) := by rw [Int.toNat_natCast]; rfl
  rw [e1]
  have e2 : b.take (List.replicate b.length (0 : UInt8)).length ++ (List.replicate b.length (0 : UInt8)).drop b.length = b := by simp
  rw [e2]
  refine lp (X := Int × OV × (List UInt8)) (fun x : Int × OV × (List UInt8) => (-1 ≤ x.1 ∧ x.1 ≤ 0) ∧ (x.2.2 ++ putB (x.1 + 1).toNat v.toUInt64 = b ++ putB 1 v.toUInt64)) (fun x : Int × OV × (List UInt8) => [dz, (1, true, U8 v), (5, true, I x.1), (6, true, x.2.1.v)]) (fun x : Int × OV × (List UInt8) => [OwnS x.2.1.v u8E x.2.2 5]) (fun x : Int × OV × (List UInt8) => (x.1 + 1).toNat) (_, o1, b) ⟨?_, ?_⟩ (fun x hx => ?_)
  · omega
  · rfl
  obtain ⟨i, o, xs⟩ := x
  obtain ⟨hi, hxs⟩ : (-1 ≤ i ∧ i ≤ 0) ∧ (xs ++ putB (i + 1).toNat v.toUInt64 = b ++ putB 1 v.toUInt64) := hx
  show Sat _ _ [dz, (1, true, U8 v), (5, true, I i), (6, true, o.v)] [OwnS o.v u8E xs 5]
  refine seq (sg (mv rfl (co (Ev.geq_i (.t rfl) (.c (v := I 0) rfl)) ?_)))
  refine nP ?_
  first | refine condD rfl (fun h0 => ?_) (fun h0 => ?_) | refine cond rfl (fun h0 => ?_) (fun h0 => ?_)
  · try simp only [Gx.nb] at h0
    have hlen : xs.length + (i + 1).toNat = b.length + 1 := by
      have := congrArg List.length hxs
      simpa [putB_length] using this
    refine skip (pN (seq (block (region (mv rfl (mv rfl (co (Ev.conv_u8_u64 Tryz.underlying35 Tryz.underlying5 (.t rfl)) ?_)))))))
    refine mv rfl (co (Ev.mul_i (.c (v := I 8) rfl) (.t rfl) (fun _ => zo)) ?_)
    refine co (Ev.shr_u64 (.t rfl) (.t rfl) (fun _ => zo)) ?_
    refine co (Ev.conv_u64_u8 Tryz.underlying5 Tryz.underlying35 (.t rfl)) ?_
    refine cons (buildSlice (E := u8E) Tryz.underlying63 ty5 z5 (.cons (.t rfl) .nil) rfl rfl (fun v1 => ?_))
    refine cons (app (E := u8E) Tryz.underlying63 ty5 zb5 zs5 (.t rfl) (.t rfl) (fun v2 => ?_) (hby := ⟨by (show _ ≤ 9223372036854775807); simp; omega, by simp; omega⟩))
    refine asn rfl (nil (bN (pN (region (mv rfl (co (Ev.sub_i (.t rfl) (.c (v := I 1) rfl) (fun _ => zo)) ?_))))))
    refine asn rfl (nP (nx (X := Int × OV × (List UInt8)) (i - 1, _, _) ⟨?_, ?_⟩ ?_))
    · try dsimp only
      omega
    · try dsimp only
      rw [← hxs]
      have e : (i + 1).toNat = (i - 1 + 1).toNat + 1 := by omega
      have e3 : (8 * i).toNat = 8 * (i - 1 + 1).toNat := by omega
      rw [e, List.append_assoc, List.append_cancel_left_eq, e3]
      rfl
    · try dsimp only
      omega
  · try simp only [Gx.nb] at h0
    have hi1 : (i + 1).toNat = 0 := by omega
    rw [hi1] at hxs
    simp only [putB, List.append_nil] at hxs
    subst hxs
    refine exit (pX (pX (bX (pN (sg (mv rfl (asn rfl (nP (ret (done rfl (.tmp rfl .nil) (retOE zm ?_)))))))))))
    rfl
theorem width_uint16_ok (w : World) : Calls Tryz.prog 118 #[] w (RetV w (I 2)) := by
  refine en0 13 Tryz.func118 ?_
  refine sg (co (Ev.assign (.c (v := I 0) rfl)) ?_)
  refine nP (sg (co (Ev.assign (.c (v := I 0) rfl)) ?_))
  refine nP (seq (sg (co (Ev.conv_i_u16 Tryz.underlying46 Tryz.underlying3 (.c (v := I 0) rfl)) ?_)))
  refine co (Ev.compl_u16 (.t rfl)) ?_
  refine co (Ev.conv_u16_u64 Tryz.underlying35 Tryz.underlying46 (.t rfl)) ?_
  refine asn rfl (nP (block (lp (X := Nat × UInt64) (fun x : Nat × UInt64 => (x.1 ≤ 2) ∧ (x.2.toNat + 1 = 256 ^ (2 - x.1))) (fun x : Nat × UInt64 => [dz, (0, true, I 0), (1, true, I x.1), (2, true, U64 x.2)]) (fun x : Nat × UInt64 => []) (fun x : Nat × UInt64 => 2 - x.1) (0, _) ⟨?_, ?_⟩ (fun x hx => ?_))))
  · omega
  · decide
  obtain ⟨k, t⟩ := x
  obtain ⟨hk, ht⟩ : (k ≤ 2) ∧ (t.toNat + 1 = 256 ^ (2 - k)) := hx
  show Sat _ _ [dz, (0, true, I 0), (1, true, I k), (2, true, U64 t)] []
  refine seq (sg (mv rfl (co (Ev.gtr_u64 (.t rfl) (.c (v := U64 0) rfl)) ?_)))
  refine nP ?_
  first | refine condD rfl (fun h0 => ?_) (fun h0 => ?_) | refine cond rfl (fun h0 => ?_) (fun h0 => ?_)
  · try simp only [Gx.nb] at h0
    have hkn : k < 2 := by
      rcases Nat.lt_or_ge k 2 with h | h
      · exact h
      · have e : k = 2 := by omega
        subst e
        simp [UInt64.lt_iff_toNat_lt] at h0 ht
        omega
    refine skip (pN (seq (block (region (mv rfl (co (Ev.add_i (.t rfl) (.c (v := I 1) rfl) (fun _ => zo)) ?_))))))
    refine asn rfl (nil (bN (pN (region (mv rfl (co (Ev.shr_u64 (.t rfl) (.c rfl) (fun _ => by decide)) ?_))))))
    refine asn rfl (nP (nx (X := Nat × UInt64) (k + 1, shr64 t 8) ⟨?_, ?_⟩ ?_))
    · try dsimp only
      omega
    · try dsimp only
      rw [toNat_shr64]; have e : 2 - k = (2 - (k + 1)) + 1 := by omega
      rw [e, Nat.pow_succ] at ht
      omega
    · try dsimp only
      first | omega | (simp; omega)
  · try simp only [Gx.nb] at h0
    have hkn : k = 2 := by
      rcases Nat.lt_or_ge k 2 with h | h
      · have e : 2 - k = (2 - (k + 1)) + 1 := by omega
        have hp : 0 < 256 ^ (2 - (k + 1)) := Nat.pow_pos (by decide)
        rw [e, Nat.pow_succ] at ht
        simp [UInt64.lt_iff_toNat_lt] at h0
        omega
      · omega
    subst hkn
    refine exit (pX (pX (bX (pN (sg (mv rfl (asn rfl (nP (ret (done rfl (.tmp rfl .nil) (retE ?_)))))))))))
    first | rfl | (simp; done)
theorem en118 : Gx.Enters Tryz.prog 118 := Gx.Enters.mk' zk
theorem put_uint16_ok (u : Value) (b : List UInt8) (v : UInt16) (w : World) (hb : IsSl u8E w u b) (hl : b.length + 2 ≤ 140737488355328) :
    Calls Tryz.prog 82 #[u, U16 v] w (RetO w u8E (b ++ putB 2 v.toUInt64) 5) := by
  have hbl := hb.le
  refine en0 34 Tryz.func82 ?_
  refine sg (co (Ev.assign (.c (v := (Go.Value.slice none 0 0)) rfl)) ?_)
  refine nP (sg (cons (callv en118 .nil (fun w I => width_uint16_ok w) ?_)))
  refine asn rfl (nP (sg (mv rfl (co (Ev.len Tryz.underlying63 (.t rfl) zf) ?_))))
  refine mv rfl (co (Ev.len Tryz.underlying63 (.t rfl) zf) ?_)
  refine mv rfl (co (Ev.add_i (.t rfl) (.t rfl) (fun _ => zo)) ?_)
  refine cons (makeSl (E := u8E) Tryz.underlying63 ty5 rfl zb5 (.t rfl) (.t rfl) ⟨by omega, by omega⟩ ⟨by omega, by omega⟩ (fun o1 => ?_))
  refine asn rfl (nP (sg (mv rfl (mv rfl (cons (copyO (E := u8E) Tryz.underlying63 ty5 (.t rfl) (.t rfl) (by repeat first | exact Upd.head | apply Upd.tail) (fun w I => hb.keep0 I.keeps) ?_))))))
  refine nP (seq (sg (mv rfl (co (Ev.sub_i (.t rfl) (.c (v := I 1) rfl) (fun _ => zo)) ?_))))
  refine asn rfl (nP (block ?_))
  have e1 : (List.replicate (Int.toNat (b.length : Int)) u8E.zero) = List.replicate b.length (0 : UInt8) := by rw [Int.toNat_natCast]; rfl
  rw [e1]
  have e2 : b.take (List.replicate b.length (0 : UInt8)).length ++ (List.replicate b.length (0 : UInt8)).drop b.length = b := by simp
  rw [e2]
  refine lp (X := Int × OV × (List UInt8)) (fun x : Int × OV × (List UInt8) => (-1 ≤ x.1 ∧ x.1 ≤ 1) ∧ (x.2.2 ++ putB (x.1 + 1).toNat v.toUInt64 = b ++ putB 2 v.toUInt64)) (fun x : Int × OV × (List UInt8) => [dz, (1, true, U16 v), (5, true, I x.1), (6, true, x.2.1.v)]) (fun x : Int × OV × (List UInt8) => [OwnS x.2.1.v u8E x.2.2 5]) (fun x : Int × OV × (List UInt8) => (x.1 + 1).toNat) (_, o1, b) ⟨?_, ?_⟩ (fun x hx => ?_)
  · omega
  · rfl
  obtain ⟨i, o, xs⟩ := x
  obtain ⟨hi, hxs⟩ : (-1 ≤ i ∧ i ≤ 1) ∧ (xs ++ putB (i + 1).toNat v.toUInt64 = b ++ putB 2 v.toUInt64) := hx
  show Sat _ _ [dz, (1, true, U16 v), (5, true, I i), (6, true, o.v)] [OwnS o.v u8E xs 5]
  refine seq (sg (mv rfl (co (Ev.geq_i (.t rfl) (.c (v := I 0) rfl)) ?_)))
  refine nP ?_
  first | refine condD rfl (fun h0 => ?_) (fun h0 => ?_) | refine cond rfl (fun h0 => ?_) (fun h0 => ?_)
  · try simp only [Gx.nb] at h0
    have hlen : xs.length + (i + 1).toNat = b.length + 2 := by
      have := congrArg List.length hxs
      simpa [putB_length] using this
    refine skip (pN (seq (block (region (mv rfl (mv rfl (co (Ev.conv_u16_u64 Tryz.underlying35 Tryz.underlying46 (.t rfl)) ?_)))))))
    refine mv rfl (co (Ev.mul_i (.c (v := I 8) rfl) (.t rfl) (fun _ => zo)) ?_)
    refine co (Ev.shr_u64 (.t rfl) (.t rfl) (fun _ => zo)) ?_
    refine co (Ev.conv_u64_u8 Tryz.underlying5 Tryz.underlying35 (.t rfl)) ?_
    refine cons (buildSlice (E := u8E) Tryz.underlying63 ty5 z5 (.cons (.t rfl) .nil) rfl rfl (fun v1 => ?_))
    refine cons (app (E := u8E) Tryz.underlying63 ty5 zb5 zs5 (.t rfl) (.t rfl) (fun v2 => ?_) (hby := ⟨by (show _ ≤ 9223372036854775807); simp; omega, by simp; omega⟩))
    refine asn rfl (nil (bN (pN (region (mv rfl (co (Ev.sub_i (.t rfl) (.c (v := I 1) rfl) (fun _ => zo)) ?_))))))
    refine asn rfl (nP (nx (X := Int × OV × (List UInt8)) (i - 1, _, _) ⟨?_, ?_⟩ ?_))
    · try dsimp only
      omega
    · try dsimp only
      rw [← hxs]
      have e : (i + 1).toNat = (i - 1 + 1).toNat + 1 := by omega
      have e3 : (8 * i).toNat = 8 * (i - 1 + 1).toNat := by omega
      rw [e, List.append_assoc, List.append_cancel_left_eq, e3]
      rfl
    · try dsimp only
      omega
  · try simp only [Gx.nb] at h0
    have hi1 : (i + 1).toNat = 0 := by omega
    rw [hi1] at hxs
    simp only [putB, List.append_nil] at hxs
    subst hxs
    refine exit (pX (pX (bX (pN (sg (mv rfl (asn rfl (nP (ret (done rfl (.tmp rfl .nil) (retOE zm ?_)))))))))))
    rfl
theorem width_uint32_ok (w : World) : Calls Tryz.prog 119 #[] w (RetV w (I 4)) := by
  refine en0 13 Tryz.func119 ?_
  refine sg (co (Ev.assign (.c (v := I 0) rfl)) ?_)
  refine nP (sg (co (Ev.assign (.c (v := I 0) rfl)) ?_))
  refine nP (seq (sg (co (Ev.conv_i_u32 Tryz.underlying91 Tryz.underlying3 (.c (v := I 0) rfl)) ?_)))
  refine co (Ev.compl_u32 (.t rfl)) ?_
  refine co (Ev.conv_u32_u64 Tryz.underlying35 Tryz.underlying91 (.t rfl)) ?_
  refine asn rfl (nP (block (lp (X := Nat × UInt64) (fun x : Nat × UInt64 => (x.1 ≤ 4) ∧ (x.2.toNat + 1 = 256 ^ (4 - x.1))) (fun x : Nat × UInt64 => [dz, (0, true, I 0), (1, true, I x.1), (2, true, U64 x.2)]) (fun x : Nat × UInt64 => []) (fun x : Nat × UInt64 => 4 - x.1) (0, _) ⟨?_, ?_⟩ (fun x hx => ?_))))
  · omega
  · decide
  obtain ⟨k, t⟩ := x
  obtain ⟨hk, ht⟩ : (k ≤ 4) ∧ (t.toNat + 1 = 256 ^ (4 - k)) := hx
  show Sat _ _ [dz, (0, true, I 0), (1, true, I k), (2, true, U64 t)] []
  refine seq (sg (mv rfl (co (Ev.gtr_u64 (.t rfl) (.c (v := U64 0) rfl)) ?_)))
  refine nP ?_
  first | refine condD rfl (fun h0 => ?_) (fun h0 => ?_) | refine cond rfl (fun h0 => ?_) (fun h0 => ?_)
  · try simp only [Gx.nb] at h0
    have hkn : k < 4 := by
      rcases Nat.lt_or_ge k 4 with h | h
      · exact h
      · have e : k = 4 := by omega
        subst e
        simp [UInt64.lt_iff_toNat_lt] at h0 ht
        omega
    refine skip (pN (seq (block (region (mv rfl (co (Ev.add_i (.t rfl) (.c (v := I 1) rfl) (fun _ => zo)) ?_))))))
    refine asn rfl (nil (bN (pN (region (mv rfl (co (Ev.shr_u64 (.t rfl) (.c rfl) (fun _ => by decide)) ?_))))))
    refine asn rfl (nP (nx (X := Nat × UInt64) (k + 1, shr64 t 8) ⟨?_, ?_⟩ ?_))
    · try dsimp only
      omega
    · try dsimp only
      rw [toNat_shr64]; have e : 4 - k = (4 - (k + 1)) + 1 := by omega
      rw [e, Nat.pow_succ] at ht
      omega
    · try dsimp only
      first | omega | (simp; omega)
  · try simp only [Gx.nb] at h0
    have hkn : k = 4 := by
      rcases Nat.lt_or_ge k 4 with h | h
      · have e : 4 - k = (4 - (k + 1)) + 1 := by omega
        have hp : 0 < 256 ^ (4 - (k + 1)) := Nat.pow_pos (by decide)
        rw [e, Nat.pow_succ] at ht
        simp [UInt64.lt_iff_toNat_lt] at h0
        omega
      · omega
    subst hkn
    refine exit (pX (pX (bX (pN (sg (mv rfl (asn rfl (nP (ret (done rfl (.tmp rfl .nil) (retE ?_)))))))))))
    first | rfl | (simp; done)
theorem en119 : Gx.Enters Tryz.prog 119 := Gx.Enters.mk' zk
theorem put_uint32_ok (u : Value) (b : List UInt8) (v : UInt32) (w : World) (hb : IsSl u8E w u b) (hl : b.length + 4 ≤ 140737488355328) :
    Calls Tryz.prog 81 #[u, U32 v] w (RetO w u8E (b ++ putB 4 v.toUInt64) 5) := by
  have hbl := hb.le
  refine en0 34 Tryz.func81 ?_
  refine sg (co (Ev.assign (.c (v := (Go.Value.slice none 0 0)) rfl)) ?_)
  refine nP (sg (cons (callv en119 .nil (fun w I => width_uint32_ok w) ?_)))
  refine asn rfl (nP (sg (mv rfl (co (Ev.len Tryz.underlying63 (.t rfl) zf) ?_))))
  refine mv rfl (co (Ev.len Tryz.underlying63 (.t rfl) zf) ?_)
  refine mv rfl (co (Ev.add_i (.t rfl) (.t rfl) (fun _ => zo)) ?_)
  refine cons (makeSl (E := u8E) Tryz.underlying63 ty5 rfl zb5 (.t rfl) (.t rfl) ⟨by omega, by omega⟩ ⟨by omega, by omega⟩ (fun o1 => ?_))
  refine asn rfl (nP (sg (mv rfl (mv rfl (cons (copyO (E := u8E) Tryz.underlying63 ty5 (.t rfl) (.t rfl) (by repeat first | exact Upd.head | apply Upd.tail) (fun w I => hb.keep0 I.keeps) ?_))))))
  refine nP (seq (sg (mv rfl (co (Ev.sub_i (.t rfl) (.c (v := I 1) rfl) (fun _ => zo)) ?_))))
  refine asn rfl (nP (block ?_))
  have e1 : (List.replicate (Int.toNat (b.length : Int)) u8E.zero) = List.replicate b.length (0 : UInt8) := by rw [Int.toNat_natCast]; rfl
  rw [e1]
  have e2 : b.take (List.replicate b.length (0 : UInt8)).length ++ (List.replicate b.length (0 : UInt8)).drop b.length = b := by simp
  rw [e2]
  refine lp (X := Int × OV × (List UInt8)) (fun x : Int × OV × (List UInt8) => (-1 ≤ x.1 ∧ x.1 ≤ 3) ∧ (x.2.2 ++ putB (x.1 + 1).toNat v.toUInt64 = b ++ putB 4 v.toUInt64)) (fun x : Int × OV × (List UInt8) => [dz, (1, true, U32 v), (5, true, I x.1), (6, true, x.2.1.v)]) (fun x : Int × OV × (List UInt8) => [OwnS x.2.1.v u8E x.2.2 5]) (fun x : Int × OV × (List UInt8) => (x.1 + 1).toNat) (_, o1, b) ⟨?_, ?_⟩ (fun x hx => ?_)
  · omega
  · rfl
  obtain ⟨i, o, xs⟩ := x
  obtain ⟨hi, hxs⟩ : (-1 ≤ i ∧ i ≤ 3) ∧ (xs ++ putB (i + 1).toNat v.toUInt64 = b ++ putB 4 v.toUInt64) := hx
  show Sat _ _ [dz, (1, true, U32 v), (5, true, I i), (6, true, o.v)] [OwnS o.v u8E xs 5]
  refine seq (sg (mv rfl (co (Ev.geq_i (.t rfl) (.c (v := I 0) rfl)) ?_)))
  refine nP ?_
  first | refine condD rfl (fun h0 => ?_) (fun h0 => ?_) | refine cond rfl (fun h0 => ?_) (fun h0 => ?_)
  · try simp only [Gx.nb] at h0
    have hlen : xs.length + (i + 1).toNat = b.length + 4 := by
      have := congrArg List.length hxs
      simpa [putB_length] using this
    refine skip (pN (seq (block (region (mv rfl (mv rfl (co (Ev.conv_u32_u64 Tryz.underlying35 Tryz.underlying91 (.t rfl)) ?_)))))))
    refine mv rfl (co (Ev.mul_i (.c (v := I 8) rfl) (.t rfl) (fun _ => zo)) ?_)
    refine co (Ev.shr_u64 (.t rfl) (.t rfl) (fun _ => zo)) ?_
    refine co (Ev.conv_u64_u8 Tryz.underlying5 Tryz.underlying35 (.t rfl)) ?_
    refine cons (buildSlice (E := u8E) Tryz.underlying63 ty5 z5 (.cons (.t rfl) .nil) rfl rfl (fun v1 => ?_))
    refine cons (app (E := u8E) Tryz.underlying63 ty5 zb5 zs5 (.t rfl) (.t rfl) (fun v2 => ?_) (hby := ⟨by (show _ ≤ 9223372036854775807); simp; omega, by simp; omega⟩))
    refine asn rfl (nil (bN (pN (region (mv rfl (co (Ev.sub_i (.t rfl) (.c (v := I 1) rfl) (fun _ => zo)) ?_))))))
    refine asn rfl (nP (nx (X := Int × OV × (List UInt8)) (i - 1, _, _) ⟨?_, ?_⟩ ?_))
    · try dsimp only
      omega
    · try dsimp only
      rw [← hxs]
      have e : (i + 1).toNat = (i - 1 + 1).toNat + 1 := by omega
      have e3 : (8 * i).toNat = 8 * (i - 1 + 1).toNat := by omega
      rw [e, List.append_assoc, List.append_cancel_left_eq, e3]
      rfl
    · try dsimp only
      omega
  · try simp only [Gx.nb] at h0
    have hi1 : (i + 1).toNat = 0 := by omega
    rw [hi1] at hxs
    simp only [putB, List.append_nil] at hxs
    subst hxs
    refine exit (pX (pX (bX (pN (sg (mv rfl (asn rfl (nP (ret (done rfl (.tmp rfl .nil) (retOE zm ?_)))))))))))
    rfl
def numB (l : List UInt8) : UInt64 := l.foldl (fun v x => v * 256 + x.toUInt64) 0
theorem or_byte (v : UInt64) (x : UInt8) : shl64 v 8 ||| x.toUInt64 = v * 256 + x.toUInt64 := by
  apply UInt64.toNat_inj.1
  have hx := x.toNat_lt
  rw [UInt64.toNat_or, toNat_shl64, UInt64.toNat_add, UInt64.toNat_mul, UInt8.toNat_toUInt64]
  have e1 : v.toNat * 2 ^ 8 % 18446744073709551616 = 2 ^ 8 * (v.toNat % 72057594037927936) := by omega
  rw [e1, ← Nat.two_pow_add_eq_or_of_lt (by omega : x.toNat < 2 ^ 8)]
  have e2 : UInt64.toNat 256 = 256 := rfl
  rw [e2]
  omega
theorem numB_snoc (l : List UInt8) (x : UInt8) : numB (l ++ [x]) = numB l * 256 + x.toUInt64 := by simp [numB]
theorem take_snoc {α : Type} (l : List α) (i : Int) (h0 : 0 ≤ i) (h1 : i < l.length) (z : α) : l.take (i + 1).toNat = l.take i.toNat ++ [l.getD i.toNat z] := by
  have e : (i + 1).toNat = i.toNat + 1 := by omega
  have h2 : i.toNat < l.length := by omega
  rw [e, List.take_succ_eq_append_getElem h2]
  simp [List.getD, h2]
theorem numB_step (l : List UInt8) (i : Int) (h0 : 0 ≤ i) (h1 : i < l.length) : numB (l.take (i + 1).toNat) = numB (l.take i.toNat) * 256 + (l.getD i.toNat 0).toUInt64 := by
  rw [take_snoc l i h0 h1 0, numB_snoc]
def takeB (b : List UInt8) (p : Int) (n : Nat) : UInt64 × Int := if 0 ≤ p ∧ p + n ≤ b.length then (numB ((b.take (p + n).toNat).drop p.toNat), 0) else (0, 5)
theorem take_uint16_ok (u : Value) (b : List UInt8) (p : Int) (w : World) (hb : IsSl u8E w u b) : Calls Tryz.prog 79 #[u, I p] w (RetV w (.tuple #[U16 (takeB b p 2).1.toUInt16, I (takeB b p 2).2])) := by
  have hbl := hb.le
  refine en0 41 Tryz.func79 ?_
  refine sg (co (Ev.assign (.c (v := U16 0) rfl)) ?_)
  refine co (Ev.assign (.c (v := I 0) rfl)) ?_
  refine nP (sg (cons (callv en118 .nil (fun w I => width_uint16_ok w) ?_)))
  refine asn rfl (nP (seq (sg (mv rfl (co (Ev.lss_i (.t rfl) (.c (v := I 0) rfl)) ?_)))))
  refine mv rfl (cg rfl rfl (Ev.move (.t rfl)) ?_)
  refine cg rfl rfl (Ev.move (.t rfl)) ?_
  refine cg rfl rfl (Ev.len Tryz.underlying63 (.g rfl id) zf) ?_
  refine cg rfl rfl (Ev.move (.t rfl)) ?_
  refine cg rfl rfl (Ev.sub_i (.g rfl id) (.g rfl id) (fun _ => by first | omega | (rename_i hg; simp at hg; omega))) ?_
  refine cg rfl rfl (Ev.gtr_i (.g rfl id) (.g rfl id)) ?_
  refine co (Ev.pkO (.t rfl) rfl) ?_
  refine nP ?_
  first | refine condD rfl (fun h0 => ?_) (fun h0 => ?_) | refine cond rfl (fun h0 => ?_) (fun h0 => ?_)
  · try simp only [Gx.nb] at h0
    refine sg (co (Ev.assign (.c (v := U16 0) rfl)) ?_)
    refine co (Ev.assign (.c (v := I 5) rfl)) ?_
    refine nP (ret (pR (done rfl (.tmp rfl (.tmp rfl .nil)) (retE ?_))))
    first
      | (have e : ¬ (0 ≤ p ∧ p + (2 : Nat) ≤ b.length) := by omega
         unfold takeB; rw [if_neg e]; rfl)
      | (have e : 0 ≤ p ∧ p + (2 : Nat) ≤ b.length := by omega
         have ei : i.toNat = 2 := by omega
         rw [ei, List.take_of_length_le (by omega)] at hv
         unfold takeB; rw [if_pos e]
         have hxs' : (b.take (p + (2 : Nat)).toNat).drop p.toNat = xs := hxs
         rw [hxs', ← hv]; rfl)
  · try simp only [Gx.nb] at h0
    refine skip (pN (sg (co (Ev.assign (.c (v := U64 0) rfl)) ?_)))
    refine nP (seq (sg (mv rfl (mv rfl (mv rfl (mv rfl (co (Ev.add_i (.t rfl) (.t rfl) (fun _ => zo)) ?_)))))))
    refine co (Ev.slice Tryz.underlying63 ty5 (.t rfl) (.t rfl) (.t rfl) zf (fun _ => zo)) ?_
    refine co (Ev.len Tryz.underlying63 (.t rfl) (fun w I => IsSl.sub (w := w) (by first | exact io w I | exact IsSl.keep0 (by assumption) I.keeps) (by omega) (by omega))) ?_
    refine co (Ev.move (.c (v := I 0) rfl)) ?_
    refine nP (block ?_)
    have hs := hb.sub (l := p.toNat) (k := (p + 2).toNat) (by omega) (by omega)
    have hxl : ((b.take (p + 2).toNat).drop p.toNat).length = 2 := by simp; omega
    rw [hxl]
    generalize hxs : (b.take (p + 2).toNat).drop p.toNat = xs at hs hxl
    refine lp (X := Int × UInt64) (fun x : Int × UInt64 => (0 ≤ x.1 ∧ x.1 ≤ 2) ∧ (x.2 = numB (xs.take x.1.toNat))) (fun x : Int × UInt64 => [dz, (7, true, U64 x.2), (26, true, subS u8E.size u p.toNat (p + 2).toNat), (27, true, I 2), (28, true, I x.1)]) (fun x : Int × UInt64 => []) (fun x : Int × UInt64 => (2 - x.1).toNat) (0, _) ⟨?_, ?_⟩ (fun x hx => ?_)
    · omega
    · rfl
    obtain ⟨i, v⟩ := x
    obtain ⟨hi, hv⟩ : (0 ≤ i ∧ i ≤ 2) ∧ (v = numB (xs.take i.toNat)) := hx
    show Sat _ _ [dz, (7, true, U64 v), (26, true, subS u8E.size u p.toNat (p + 2).toNat), (27, true, I 2), (28, true, I i)] []
    refine sg (co (Ev.lss_i (.t rfl) (.t rfl)) ?_)
    refine nP (seq ?_)
    first | refine condD rfl (fun h1 => ?_) (fun h1 => ?_) | refine cond rfl (fun h1 => ?_) (fun h1 => ?_)
    · try simp only [Gx.nb] at h1
      refine skip (pN (seq (block (sg (co (Ev.indexAddr Tryz.underlying63 ty5 (.t rfl) (.t rfl) (fun w I => hs.keep0 I.keeps) (fun _ => zo)) ?_)))))
      refine co (Ev.loadS0 ty5 (.t rfl) (fun w I => hs.keep0 I.keeps) (fun _ => zo)) ?_
      refine asn rfl (nP (sg (mv rfl (co (Ev.shl_u64 (.t rfl) (.c rfl) (fun _ => by decide)) ?_))))
      refine asn rfl (nP (region (mv rfl (mv rfl (co (Ev.conv_u8_u64 Tryz.underlying35 Tryz.underlying5 (.t rfl)) ?_)))))
      refine co (Ev.or_u64 (.t rfl) (.t rfl)) ?_
      refine asn rfl (nil (bN (pN (region (co (Ev.add_i (.t rfl) (.c (v := I 1) rfl) (fun _ => zo)) ?_)))))
      refine mv rfl (nP (nx (X := Int × UInt64) (i + 1, _) ⟨?_, ?_⟩ ?_))
      · try dsimp only
        omega
      · try dsimp only
        rw [numB_step xs i hi.1 (by omega), ← or_byte, ← hv]
        rfl
      · try dsimp only
        omega
    · try simp only [Gx.nb] at h1
      refine exit (pX (pX (bX (pN (sg (mv rfl (co (Ev.conv_u64_u16 Tryz.underlying46 Tryz.underlying35 (.t rfl)) ?_)))))))
      refine asn rfl (co (Ev.assign (.c (v := I 0) rfl)) ?_)
      refine nP (ret (done rfl (.tmp rfl (.tmp rfl .nil)) (retE ?_)))
      first
        | (have e : ¬ (0 ≤ p ∧ p + (2 : Nat) ≤ b.length) := by omega
           unfold takeB; rw [if_neg e]; rfl)
        | (have e : 0 ≤ p ∧ p + (2 : Nat) ≤ b.length := by omega
           have ei : i.toNat = 2 := by omega
           rw [ei, List.take_of_length_le (by omega)] at hv
           unfold takeB; rw [if_pos e]
           have hxs' : (b.take (p + (2 : Nat)).toNat).drop p.toNat = xs := hxs
           rw [hxs', ← hv]; rfl)
theorem take_uint32_ok (u : Value) (b : List UInt8) (p : Int) (w : World) (hb : IsSl u8E w u b) : Calls Tryz.prog 80 #[u, I p] w (RetV w (.tuple #[U32 (takeB b p 4).1.toUInt32, I (takeB b p 4).2])) := by
  have hbl := hb.le
  refine en0 41 Tryz.func80 ?_
  refine sg (co (Ev.assign (.c (v := U32 0) rfl)) ?_)
  refine co (Ev.assign (.c (v := I 0) rfl)) ?_
  refine nP (sg (cons (callv en119 .nil (fun w I => width_uint32_ok w) ?_)))
  refine asn rfl (nP (seq (sg (mv rfl (co (Ev.lss_i (.t rfl) (.c (v := I 0) rfl)) ?_)))))
  refine mv rfl (cg rfl rfl (Ev.move (.t rfl)) ?_)
  refine cg rfl rfl (Ev.move (.t rfl)) ?_
  refine cg rfl rfl (Ev.len Tryz.underlying63 (.g rfl id) zf) ?_
  refine cg rfl rfl (Ev.move (.t rfl)) ?_
  refine cg rfl rfl (Ev.sub_i (.g rfl id) (.g rfl id) (fun _ => by first | omega | (rename_i hg; simp at hg; omega))) ?_
  refine cg rfl rfl (Ev.gtr_i (.g rfl id) (.g rfl id)) ?_
  refine co (Ev.pkO (.t rfl) rfl) ?_
  refine nP ?_
  first | refine condD rfl (fun h0 => ?_) (fun h0 => ?_) | refine cond rfl (fun h0 => ?_) (fun h0 => ?_)
  · try simp only [Gx.nb] at h0
    refine sg (co (Ev.assign (.c (v := U32 0) rfl)) ?_)
    refine co (Ev.assign (.c (v := I 5) rfl)) ?_
    refine nP (ret (pR (done rfl (.tmp rfl (.tmp rfl .nil)) (retE ?_))))
    first
      | (have e : ¬ (0 ≤ p ∧ p + (4 : Nat) ≤ b.length) := by omega
         unfold takeB; rw [if_neg e]; rfl)
      | (have e : 0 ≤ p ∧ p + (4 : Nat) ≤ b.length := by omega
         have ei : i.toNat = 4 := by omega
         rw [ei, List.take_of_length_le (by omega)] at hv
         unfold takeB; rw [if_pos e]
         have hxs' : (b.take (p + (4 : Nat)).toNat).drop p.toNat = xs := hxs
         rw [hxs', ← hv]; rfl)
  · try simp only [Gx.nb] at h0
    refine skip (pN (sg (co (Ev.assign (.c (v := U64 0) rfl)) ?_)))
    refine nP (seq (sg (mv rfl (mv rfl (mv rfl (mv rfl (co (Ev.add_i (.t rfl) (.t rfl) (fun _ => zo)) ?_)))))))
    refine co (Ev.slice Tryz.underlying63 ty5 (.t rfl) (.t rfl) (.t rfl) zf (fun _ => zo)) ?_
    refine co (Ev.len Tryz.underlying63 (.t rfl) (fun w I => IsSl.sub (w := w) (by first | exact io w I | exact IsSl.keep0 (by assumption) I.keeps) (by omega) (by omega))) ?_
    refine co (Ev.move (.c (v := I 0) rfl)) ?_
    refine nP (block ?_)
    have hs := hb.sub (l := p.toNat) (k := (p + 4).toNat) (by omega) (by omega)
    have hxl : ((b.take (p + 4).toNat).drop p.toNat).length = 4 := by simp; omega
    rw [hxl]
    generalize hxs : (b.take (p + 4).toNat).drop p.toNat = xs at hs hxl
    refine lp (X := Int × UInt64) (fun x : Int × UInt64 => (0 ≤ x.1 ∧ x.1 ≤ 4) ∧ (x.2 = numB (xs.take x.1.toNat))) (fun x : Int × UInt64 => [dz, (7, true, U64 x.2), (26, true, subS u8E.size u p.toNat (p + 4).toNat), (27, true, I 4), (28, true, I x.1)]) (fun x : Int × UInt64 => []) (fun x : Int × UInt64 => (4 - x.1).toNat) (0, _) ⟨?_, ?_⟩ (fun x hx => ?_)
    · omega
    · rfl
    obtain ⟨i, v⟩ := x
    obtain ⟨hi, hv⟩ : (0 ≤ i ∧ i ≤ 4) ∧ (v = numB (xs.take i.toNat)) := hx
    show Sat _ _ [dz, (7, true, U64 v), (26, true, subS u8E.size u p.toNat (p + 4).toNat), (27, true, I 4), (28, true, I i)] []
    refine sg (co (Ev.lss_i (.t rfl) (.t rfl)) ?_)
    refine nP (seq ?_)
    first | refine condD rfl (fun h1 => ?_) (fun h1 => ?_) | refine cond rfl (fun h1 => ?_) (fun h1 => ?_)
    · try simp only [Gx.nb] at h1
      refine skip (pN (seq (block (sg (co (Ev.indexAddr Tryz.underlying63 ty5 (.t rfl) (.t rfl) (fun w I => hs.keep0 I.keeps) (fun _ => zo)) ?_)))))
      refine co (Ev.loadS0 ty5 (.t rfl) (fun w I => hs.keep0 I.keeps) (fun _ => zo)) ?_
      refine asn rfl (nP (sg (mv rfl (co (Ev.shl_u64 (.t rfl) (.c rfl) (fun _ => by decide)) ?_))))
      refine asn rfl (nP (region (mv rfl (mv rfl (co (Ev.conv_u8_u64 Tryz.underlying35 Tryz.underlying5 (.t rfl)) ?_)))))
      refine co (Ev.or_u64 (.t rfl) (.t rfl)) ?_
      refine asn rfl (nil (bN (pN (region (co (Ev.add_i (.t rfl) (.c (v := I 1) rfl) (fun _ => zo)) ?_)))))
      refine mv rfl (nP (nx (X := Int × UInt64) (i + 1, _) ⟨?_, ?_⟩ ?_))
      · try dsimp only
        omega
      · try dsimp only
        rw [numB_step xs i hi.1 (by omega), ← or_byte, ← hv]
        rfl
      · try dsimp only
        omega
    · try simp only [Gx.nb] at h1
      refine exit (pX (pX (bX (pN (sg (mv rfl (co (Ev.conv_u64_u32 Tryz.underlying91 Tryz.underlying35 (.t rfl)) ?_)))))))
      refine asn rfl (co (Ev.assign (.c (v := I 0) rfl)) ?_)
      refine nP (ret (done rfl (.tmp rfl (.tmp rfl .nil)) (retE ?_)))
      first
        | (have e : ¬ (0 ≤ p ∧ p + (4 : Nat) ≤ b.length) := by omega
           unfold takeB; rw [if_neg e]; rfl)
        | (have e : 0 ≤ p ∧ p + (4 : Nat) ≤ b.length := by omega
           have ei : i.toNat = 4 := by omega
           rw [ei, List.take_of_length_le (by omega)] at hv
           unfold takeB; rw [if_pos e]
           have hxs' : (b.take (p + (4 : Nat)).toNat).drop p.toNat = xs := hxs
           rw [hxs', ← hv]; rfl)
def marks : List UInt8 := (List.range 20).map fun i : Nat => UInt8.ofInt (200 + (i : Int))
def foldN (m : Nat) : Nat := if m = 0 then 0 else (m - 1) % 65535 + 1
theorem foldN_step (m : Nat) : foldN (m / 65536 + m % 65536) = foldN m := by
  unfold foldN
  by_cases h : m = 0
  · subst h; rfl
  · have h1 : m / 65536 + m % 65536 ≠ 0 := by omega
    rw [if_neg h, if_neg h1]
    omega
theorem foldN_small {m : Nat} (h : m ≤ 65535) : foldN m = m := by
  unfold foldN
  split <;> omega
theorem foldN_le (m : Nat) : foldN m ≤ 65535 := by
  unfold foldN
  split <;> omega
def sh : Bool → Nat
  | true => 8
  | false => 0
def sumGo : Bool → List UInt8 → UInt64 → UInt64
  | _, [], n => n
  | p, x :: l, n => sumGo (!p) l (n + shl64 x.toUInt64 (sh p))
theorem sumGo_step (p : Bool) (xs r : List UInt8) (j : Nat) (n : UInt64) (hj : j < xs.length) : sumGo (!p) (xs.drop (j + 1) ++ r) (n + shl64 (xs.getD j 0).toUInt64 (sh p)) = sumGo p (xs.drop j ++ r) n := by
  rw [List.drop_eq_getElem_cons hj]
  have e : xs.getD j 0 = xs[j] := by simp [List.getD, hj]
  rw [e]
  rfl
def sumB (l : List UInt8) : UInt16 := UInt16.ofNat (65535 - foldN (sumGo true l 0).toNat)
def updB (s o n : UInt16) : UInt16 := UInt16.ofNat (65535 - foldN (65535 - s.toNat + (65535 - o.toNat) + n.toNat))
theorem compl_fold (m : Nat) : ~~~ (UInt16.ofNat (foldN m)) = UInt16.ofNat (65535 - foldN m) := by
  have h := foldN_le m
  apply UInt16.toNat_inj.1
  rw [UInt16.toNat_not, UInt16.toNat_ofNat', UInt16.toNat_ofNat']
  simp only [UInt16.size]
  omega
theorem ofold_ok (m : UInt64) (w : World) : Calls Tryz.prog 120 #[U64 m] w (RetV w (U16 (UInt16.ofNat (foldN m.toNat)))) := by
  refine en0 13 Tryz.func120 ?_
  refine sg (co (Ev.assign (.c (v := U16 0) rfl)) ?_)
  refine nP (seq (block (lp (X := UInt64) (fun x : UInt64 => (foldN x.toNat = foldN m.toNat)) (fun x : UInt64 => [dz, (0, true, U64 x)]) (fun x : UInt64 => []) (fun x : UInt64 => x.toNat) (_) ?_ (fun x hx => ?_))))
  · rfl
  obtain ⟨n, rfl⟩ : ∃ y, y = x := ⟨x, rfl⟩
  have hn : foldN n.toNat = foldN m.toNat := hx
  clear hx
  show Sat _ _ [dz, (0, true, U64 n)] []
  refine seq (sg (mv rfl (co (Ev.shr_u64 (.t rfl) (.c rfl) (fun _ => by decide)) ?_)))
  refine co (Ev.gtr_u64 (.t rfl) (.c (v := U64 0) rfl)) ?_
  refine nP ?_
  first | refine condD rfl (fun hgt => ?_) (fun hle => ?_) | refine cond rfl (fun hgt => ?_) (fun hle => ?_)
  · try simp only [Gx.nb] at hgt
    have hg2 : 0 < n.toNat / 2 ^ 16 := by simpa [UInt64.lt_iff_toNat_lt, toNat_shr64] using hgt
    have hnl := n.toNat_lt
    have hstep : (shr64 n 16 + (n &&& 65535)).toNat = n.toNat / 65536 + n.toNat % 65536 := by
      rw [UInt64.toNat_add, toNat_shr64, UInt64.toNat_and]
      have e : UInt64.toNat 65535 = 2 ^ 16 - 1 := rfl
      rw [e, Nat.and_two_pow_sub_one_eq_mod]; omega
    refine skip (pN (block (region (mv rfl (co (Ev.shr_u64 (.t rfl) (.c rfl) (fun _ => by decide)) ?_)))))
    refine mv rfl (co (Ev.and_u64 (.t rfl) (.c (v := U64 65535) rfl)) ?_)
    refine co (Ev.add_u64 (.t rfl) (.t rfl)) ?_
    refine asn rfl (nil (bN (pN (nx (X := UInt64) (_) ?_ ?_))))
    · try dsimp only
      rw [← hn, ← foldN_step n.toNat, ← hstep]; rfl
    · try dsimp only
      have hm : (shr64 n (Int.toNat 16) + (n &&& 65535)).toNat = n.toNat / 65536 + n.toNat % 65536 := hstep
      rw [hm]; omega
  · try simp only [Gx.nb] at hle
    refine exit (pX (pX (bX (pN (sg (mv rfl (co (Ev.conv_u64_u16 Tryz.underlying46 Tryz.underlying35 (.t rfl)) ?_)))))))
    refine asn rfl (nP (ret (done rfl (.tmp rfl .nil) (retE ?_))))
    have hl : n.toNat ≤ 65535 := by
      have : ¬ 0 < n.toNat / 2 ^ 16 := by simpa [UInt64.lt_iff_toNat_lt, toNat_shr64] using hle
      omega
    rw [← hn, foldN_small hl]
    have e : n.toUInt16 = UInt16.ofNat n.toNat := by
      apply UInt16.toNat_inj.1
      rw [UInt64.toNat_toUInt16, UInt16.toNat_ofNat']
    rw [← e]; rfl
theorem en120 : Gx.Enters Tryz.prog 120 := Gx.Enters.mk' zk
theorem sum_ok (u : Value) (xss : List (List UInt8)) (w : World) (hs : IsSS u8E w u xss) : Calls Tryz.prog 84 #[u] w (RetV w (U16 (sumB xss.flatten))) := by
  obtain ⟨vs, hvs, hvl, he⟩ := hs
  have hvle := hvs.le
  refine en0 34 Tryz.func84 ?_
  refine sg (co (Ev.assign (.c (v := U16 0) rfl)) ?_)
  refine nP (sg (co (Ev.assign (.c (v := U64 0) rfl)) ?_))
  refine nP (sg (co (Ev.assign (.c (v := I 8) rfl)) ?_))
  refine nP (seq (sg (mv rfl (co (Ev.len Tryz.underlying233 (.t rfl) zf) ?_))))
  refine co (Ev.move (.c (v := I 0) rfl)) ?_
  refine nP (block (lp (X := Int × UInt64 × Bool) (fun x : Int × UInt64 × Bool => (0 ≤ x.1 ∧ x.1 ≤ xss.length) ∧ (sumGo x.2.2 (xss.drop x.1.toNat).flatten x.2.1 = sumGo true xss.flatten 0)) (fun x : Int × UInt64 × Bool => [dz, (3, true, U64 x.2.1), (4, true, I (sh x.2.2)), (9, true, u), (10, true, I vs.length), (11, true, I x.1)]) (fun x : Int × UInt64 × Bool => []) (fun x : Int × UInt64 × Bool => (xss.length - x.1).toNat) (0, _, true) ⟨?_, ?_⟩ (fun x hx => ?_)))
  · omega
  · rfl
  obtain ⟨i, h, p⟩ := x
  obtain ⟨hi, hh⟩ : (0 ≤ i ∧ i ≤ xss.length) ∧ (sumGo p (xss.drop i.toNat).flatten h = sumGo true xss.flatten 0) := hx
  show Sat _ _ [dz, (3, true, U64 h), (4, true, I (sh p)), (9, true, u), (10, true, I vs.length), (11, true, I i)] []
  refine sg (co (Ev.lss_i (.t rfl) (.t rfl)) ?_)
  refine nP (seq ?_)
  first | refine condD rfl (fun hlt => ?_) (fun hge => ?_) | refine cond rfl (fun hlt => ?_) (fun hge => ?_)
  · try simp only [Gx.nb] at hlt
    refine skip (pN (seq (block (sg (co (Ev.indexAddr Tryz.underlying233 ty63 (.t rfl) (.t rfl) zf (fun _ => zo)) ?_)))))
    refine co (Ev.loadS0 ty63 (.t rfl) zf (fun _ => zo)) ?_
    refine asn rfl (nP (sg ?_))
    have hd : xss.drop i.toNat = xss.getD i.toNat [] :: xss.drop (i + 1).toNat := by
      have e : (i + 1).toNat = i.toNat + 1 := by omega
      rw [e, List.drop_eq_getElem_cons (by omega)]; simp [List.getD, show i.toNat < xss.length by omega]
    rw [hd, List.flatten_cons] at hh
    have hx := he i.toNat (by omega)
    have hxl := hx.le
    generalize xss.getD i.toNat [] = xs at hh hx hxl
    change IsSl u8E w (vs.getD i.toNat nilSl).v xs at hx
    refine mv rfl (co (Ev.len Tryz.underlying63 (.t rfl) zf) ?_)
    refine co (Ev.move (.c (v := I 0) rfl)) ?_
    refine nP (block (lp (X := Int × UInt64 × Bool) (fun x : Int × UInt64 × Bool => (0 ≤ x.1 ∧ x.1 ≤ xs.length) ∧ (sumGo x.2.2 (xs.drop x.1.toNat ++ (xss.drop (i + 1).toNat).flatten) x.2.1 = sumGo p (xs ++ (xss.drop (i + 1).toNat).flatten) h)) (fun x : Int × UInt64 × Bool => [dz, (3, true, U64 x.2.1), (4, true, I (sh x.2.2)), (9, true, u), (10, true, I vs.length), (11, true, I i), (15, true, (vs.getD i.toNat nilSl).v), (16, true, I xs.length), (17, true, I x.1)]) (fun x : Int × UInt64 × Bool => []) (fun x : Int × UInt64 × Bool => (xs.length - x.1).toNat) (0, _, _) ⟨?_, ?_⟩ (fun x hx => ?_)))
    · omega
    · rfl
    obtain ⟨j, g, q⟩ := x
    obtain ⟨hj, hg⟩ : (0 ≤ j ∧ j ≤ xs.length) ∧ (sumGo q (xs.drop j.toNat ++ (xss.drop (i + 1).toNat).flatten) g = sumGo p (xs ++ (xss.drop (i + 1).toNat).flatten) h) := hx
    show Sat _ _ [dz, (3, true, U64 g), (4, true, I (sh q)), (9, true, u), (10, true, I vs.length), (11, true, I i), (15, true, (vs.getD i.toNat nilSl).v), (16, true, I xs.length), (17, true, I j)] []
    refine sg (co (Ev.lss_i (.t rfl) (.t rfl)) ?_)
    refine nP (seq ?_)
    first | refine condD rfl (fun hlt2 => ?_) (fun hge2 => ?_) | refine cond rfl (fun hlt2 => ?_) (fun hge2 => ?_)
    · try simp only [Gx.nb] at hlt2
      refine skip (pN (seq (block (sg (co (Ev.indexAddr Tryz.underlying63 ty5 (.t rfl) (.t rfl) zf (fun _ => zo)) ?_)))))
      refine co (Ev.loadS0 ty5 (.t rfl) zf (fun _ => zo)) ?_
      refine asn rfl (nP (sg (mv rfl (mv rfl (co (Ev.conv_u8_u64 Tryz.underlying35 Tryz.underlying5 (.t rfl)) ?_)))))
      refine mv rfl (co (Ev.shl_u64 (.t rfl) (.t rfl) (fun _ => zo)) ?_)
      refine co (Ev.add_u64 (.t rfl) (.t rfl)) ?_
      refine asn rfl (nP (region (mv rfl (co (Ev.bits_i (r := sh (!q)) (m := sh q) (n := 8) (.inr (.inr rfl)) (.t rfl) (.c rfl) (fun _ => by cases q <;> decide) (fun _ => by decide) (by cases q <;> rfl)) ?_))))
      refine asn rfl (nil (bN (pN (region (co (Ev.add_i (.t rfl) (.c (v := I 1) rfl) (fun _ => zo)) ?_)))))
      refine mv rfl (nP (nx (X := Int × UInt64 × Bool) (j + 1, _, !q) ⟨?_, ?_⟩ ?_))
      · try dsimp only
        omega
      · try dsimp only
        rw [← hg]
        have e : (j + 1).toNat = j.toNat + 1 := by omega
        rw [e]
        have e2 : ((sh q : Nat) : Int).toNat = sh q := rfl
        rw [e2]
        exact sumGo_step q xs _ j.toNat _ (by omega)
      · try dsimp only
        omega
    · try simp only [Gx.nb] at hge2
      have hq : sumGo q (xss.drop (i + 1).toNat).flatten g = sumGo p (xs ++ (xss.drop (i + 1).toNat).flatten) h := by
        rw [List.drop_eq_nil_of_le (by omega)] at hg; exact hg
      refine exit (pX (pX (bX (bN (pN (region (co (Ev.add_i (.t rfl) (.c (v := I 1) rfl) (fun _ => zo)) ?_)))))))
      refine mv rfl (nP (nx (X := Int × UInt64 × Bool) (i + 1, _, _) ⟨?_, ?_⟩ ?_))
      · try dsimp only
        omega
      · try dsimp only
        exact hq.trans hh
      · try dsimp only
        omega
  · try simp only [Gx.nb] at hge
    refine exit (pX (pX (bX (pN (sg (mv rfl (cons (callv en120 (.cons (.t rfl) .nil) (fun w I => ofold_ok _ w) ?_))))))))
    refine co (Ev.compl_u16 (.t rfl)) ?_
    refine asn rfl (nP (ret (done rfl (.tmp rfl .nil) (retE ?_))))
    have e : xss.drop i.toNat = [] := List.drop_eq_nil_of_le (by omega)
    rw [e] at hh
    rw [compl_fold]
    unfold sumB
    rw [← hh]; rfl
def hashB (h : UInt64) (l : List UInt8) : UInt64 := l.foldl (fun h x => (h ^^^ x.toUInt64) * 1099511628211) h
theorem hashB_step (g : UInt64) (xs r : List UInt8) (j : Nat) (hj : j < xs.length) : hashB ((g ^^^ (xs.getD j 0).toUInt64) * 1099511628211) (xs.drop (j + 1) ++ r) = hashB g (xs.drop j ++ r) := by
  rw [List.drop_eq_getElem_cons hj]
  have e : xs.getD j 0 = xs[j] := by simp [List.getD, hj]
  rw [e]
  rfl
theorem hash_ok (u : Value) (xss : List (List UInt8)) (w : World) (hs : IsSS u8E w u xss) : Calls Tryz.prog 76 #[u] w (RetV w (U64 (hashB 14695981039346656037 xss.flatten))) := by
  obtain ⟨vs, hvs, hvl, he⟩ := hs
  have hvle := hvs.le
  refine en0 29 Tryz.func76 ?_
  refine sg (co (Ev.assign (.c (v := U64 0) rfl)) ?_)
  refine nP (sg (co (Ev.assign (.c (v := U64 14695981039346656037) rfl)) ?_))
  refine nP (seq (sg (mv rfl (co (Ev.len Tryz.underlying233 (.t rfl) zf) ?_))))
  refine co (Ev.move (.c (v := I 0) rfl)) ?_
  refine nP (block (lp (X := Int × UInt64) (fun x : Int × UInt64 => (0 ≤ x.1 ∧ x.1 ≤ xss.length) ∧ (hashB x.2 (xss.drop x.1.toNat).flatten = hashB 14695981039346656037 xss.flatten)) (fun x : Int × UInt64 => [dz, (3, true, U64 x.2), (8, true, u), (9, true, I vs.length), (10, true, I x.1)]) (fun x : Int × UInt64 => []) (fun x : Int × UInt64 => (xss.length - x.1).toNat) (0, _) ⟨?_, ?_⟩ (fun x hx => ?_)))
  · omega
  · rfl
  obtain ⟨i, h⟩ := x
  obtain ⟨hi, hh⟩ : (0 ≤ i ∧ i ≤ xss.length) ∧ (hashB h (xss.drop i.toNat).flatten = hashB 14695981039346656037 xss.flatten) := hx
  show Sat _ _ [dz, (3, true, U64 h), (8, true, u), (9, true, I vs.length), (10, true, I i)] []
  refine sg (co (Ev.lss_i (.t rfl) (.t rfl)) ?_)
  refine nP (seq ?_)
  first | refine condD rfl (fun hlt => ?_) (fun hge => ?_) | refine cond rfl (fun hlt => ?_) (fun hge => ?_)
  · try simp only [Gx.nb] at hlt
    refine skip (pN (seq (block (sg (co (Ev.indexAddr Tryz.underlying233 ty63 (.t rfl) (.t rfl) zf (fun _ => zo)) ?_)))))
    refine co (Ev.loadS0 ty63 (.t rfl) zf (fun _ => zo)) ?_
    refine asn rfl (nP (sg ?_))
    have hd : xss.drop i.toNat = xss.getD i.toNat [] :: xss.drop (i + 1).toNat := by
      have e : (i + 1).toNat = i.toNat + 1 := by omega
      rw [e, List.drop_eq_getElem_cons (by omega)]; simp [List.getD, show i.toNat < xss.length by omega]
    rw [hd, List.flatten_cons] at hh
    have hx := he i.toNat (by omega)
    have hxl := hx.le
    generalize xss.getD i.toNat [] = xs at hh hx hxl
    change IsSl u8E w (vs.getD i.toNat nilSl).v xs at hx
    refine mv rfl (co (Ev.len Tryz.underlying63 (.t rfl) zf) ?_)
    refine co (Ev.move (.c (v := I 0) rfl)) ?_
    refine nP (block (lp (X := Int × UInt64) (fun x : Int × UInt64 => (0 ≤ x.1 ∧ x.1 ≤ xs.length) ∧ (hashB x.2 (xs.drop x.1.toNat ++ (xss.drop (i + 1).toNat).flatten) = hashB h (xs ++ (xss.drop (i + 1).toNat).flatten))) (fun x : Int × UInt64 => [dz, (3, true, U64 x.2), (8, true, u), (9, true, I vs.length), (10, true, I i), (14, true, (vs.getD i.toNat nilSl).v), (15, true, I xs.length), (16, true, I x.1)]) (fun x : Int × UInt64 => []) (fun x : Int × UInt64 => (xs.length - x.1).toNat) (0, _) ⟨?_, ?_⟩ (fun x hx => ?_)))
    · omega
    · rfl
    obtain ⟨j, g⟩ := x
    obtain ⟨hj, hg⟩ : (0 ≤ j ∧ j ≤ xs.length) ∧ (hashB g (xs.drop j.toNat ++ (xss.drop (i + 1).toNat).flatten) = hashB h (xs ++ (xss.drop (i + 1).toNat).flatten)) := hx
    show Sat _ _ [dz, (3, true, U64 g), (8, true, u), (9, true, I vs.length), (10, true, I i), (14, true, (vs.getD i.toNat nilSl).v), (15, true, I xs.length), (16, true, I j)] []
    refine sg (co (Ev.lss_i (.t rfl) (.t rfl)) ?_)
    refine nP (seq ?_)
    first | refine condD rfl (fun hlt2 => ?_) (fun hge2 => ?_) | refine cond rfl (fun hlt2 => ?_) (fun hge2 => ?_)
    · try simp only [Gx.nb] at hlt2
      refine skip (pN (seq (block (sg (co (Ev.indexAddr Tryz.underlying63 ty5 (.t rfl) (.t rfl) zf (fun _ => zo)) ?_)))))
      refine co (Ev.loadS0 ty5 (.t rfl) zf (fun _ => zo)) ?_
      refine asn rfl (nP (sg (mv rfl (mv rfl (co (Ev.conv_u8_u64 Tryz.underlying35 Tryz.underlying5 (.t rfl)) ?_)))))
      refine co (Ev.xor_u64 (.t rfl) (.t rfl)) ?_
      refine asn rfl (nP (region (mv rfl (co (Ev.mul_u64 (.t rfl) (.c (v := U64 1099511628211) rfl)) ?_))))
      refine asn rfl (nil (bN (pN (region (co (Ev.add_i (.t rfl) (.c (v := I 1) rfl) (fun _ => zo)) ?_)))))
      refine mv rfl (nP (nx (X := Int × UInt64) (j + 1, _) ⟨?_, ?_⟩ ?_))
      · try dsimp only
        omega
      · try dsimp only
        rw [← hg]
        have e : (j + 1).toNat = j.toNat + 1 := by omega
        rw [e]
        exact hashB_step g xs _ j.toNat (by omega)
      · try dsimp only
        omega
    · try simp only [Gx.nb] at hge2
      have hq : hashB g (xss.drop (i + 1).toNat).flatten = hashB h (xs ++ (xss.drop (i + 1).toNat).flatten) := by
        rw [List.drop_eq_nil_of_le (by omega)] at hg; exact hg
      refine exit (pX (pX (bX (bN (pN (region (co (Ev.add_i (.t rfl) (.c (v := I 1) rfl) (fun _ => zo)) ?_)))))))
      refine mv rfl (nP (nx (X := Int × UInt64) (i + 1, _) ⟨?_, ?_⟩ ?_))
      · try dsimp only
        omega
      · try dsimp only
        exact hq.trans hh
      · try dsimp only
        omega
  · try simp only [Gx.nb] at hge
    refine exit (pX (pX (bX (pN (sg (mv rfl (asn rfl (nP (ret (done rfl (.tmp rfl .nil) (retE ?_)))))))))))
    have e : xss.drop i.toNat = [] := List.drop_eq_nil_of_le (by omega)
    rw [e] at hh
    rw [← hh]; rfl
end Go.Proofs.YtakmoeladkajdaaGreat.Oc
namespace Go.Proofs.YtakmoeladkajdaaGreat.Oc
open Go Go.Gx Go.Proofs.YtakmoeladkajdaaGreat.Tri
def addrB (a : SAddr) : List UInt8 := a.b.toList.take (bif a.v6 then 16 else 4)
theorem front_ok (h : SHeader) (w : World) : Calls Tryz.prog 50 #[eHeader.val h] w (RetV w (I (frontN h))) := by
  refine en0 6 Tryz.func50 ?_
  refine sg (cons (box (E := eHeader) (.t rfl) (fun b1 => ?_)))
  refine co (Ev.assign (.c (v := I 0) rfl)) ?_
  refine nP (seq (sg (co (fA 0 (.t rfl)) ?_)))
  refine co (fA 0 (.t rfl)) ?_
  refine co (Ev.ldx h.src.v6 ty4 (.t rfl) (Lens.comp SHeader.l_src SAddr.l_v6)) ?_
  refine nP ?_
  first | refine condD rfl (fun h0 => ?_) (fun h0 => ?_) | refine cond rfl (fun h0 => ?_) (fun h0 => ?_)
  · try simp only [Gx.nb] at h0
    refine sg (co (Ev.assign (.c (v := I 40) rfl)) ?_)
    refine nP (ret (pR (done rfl (.tmp rfl .nil) (retE ?_))))
    first | rfl | simp [frontN, *]
  · try simp only [Gx.nb] at h0
    refine skip (pN (sg (co (Ev.assign (.c (v := I 20) rfl)) ?_)))
    refine nP (ret (done rfl (.tmp rfl .nil) (retE ?_)))
    first | rfl | simp [frontN, *]
theorem middle_ok (p : UInt8) (w : World) : Calls Tryz.prog 60 #[U8 p] w (RetV w (I (midN p))) := by
  refine en0 8 Tryz.func60 ?_
  refine sg (co (Ev.assign (.c (v := I 0) rfl)) ?_)
  refine nP (seq (sg (mv rfl (nP (block (sg (co (Ev.eql_u8 (.t rfl) (.c (v := U8 6) rfl)) ?_)))))))
  refine asn rfl (nP ?_)
  first | refine condD rfl (fun h0 => ?_) (fun h0 => ?_) | refine cond rfl (fun h0 => ?_) (fun h0 => ?_)
  · try simp only [Gx.nb] at h0
    refine sg (co (Ev.assign (.c (v := I 20) rfl)) ?_)
    refine nP (ret (bR (pR (done rfl (.tmp rfl .nil) (retE ?_)))))
    simp [midN, *]
  · try simp only [Gx.nb] at h0
    refine sg (co (Ev.eql_u8 (.t rfl) (.c (v := U8 17) rfl)) ?_)
    refine asn rfl (nP ?_)
    first | refine condD rfl (fun h1 => ?_) (fun h1 => ?_) | refine cond rfl (fun h1 => ?_) (fun h1 => ?_)
    · try simp only [Gx.nb] at h1
      refine sg (co (Ev.assign (.c (v := I 8) rfl)) ?_)
      refine nP (ret (bR (pR (done rfl (.tmp rfl .nil) (retE ?_)))))
      simp [midN, *]
    · try simp only [Gx.nb] at h1
      refine skip (bN (pN (sg (co (Ev.assign (.c (v := I 0) rfl)) ?_))))
      refine nP (ret (done rfl (.tmp rfl .nil) (retE ?_)))
      simp [midN, *]
theorem at_ok (p : UInt8) (w : World) : Calls Tryz.prog 62 #[U8 p] w (RetV w (I (atN p))) := by
  refine en0 5 Tryz.func62 ?_
  refine sg (co (Ev.assign (.c (v := I 0) rfl)) ?_)
  refine nP (seq (sg (mv rfl (co (Ev.eql_u8 (.t rfl) (.c (v := U8 6) rfl)) ?_))))
  refine nP ?_
  first | refine condD rfl (fun h0 => ?_) (fun h0 => ?_) | refine cond rfl (fun h0 => ?_) (fun h0 => ?_)
  · try simp only [Gx.nb] at h0
    refine sg (co (Ev.assign (.c (v := I 16) rfl)) ?_)
    refine nP (ret (pR (done rfl (.tmp rfl .nil) (retE ?_))))
    simp [atN, *]
  · try simp only [Gx.nb] at h0
    refine skip (pN (sg (co (Ev.assign (.c (v := I 6) rfl)) ?_)))
    refine nP (ret (done rfl (.tmp rfl .nil) (retE ?_)))
    simp [atN, *]
theorem equal_ok (u v : Value) (a b : List UInt8) (w : World) (ha : IsSl u8E w u a) (hb : IsSl u8E w v b) : Calls Tryz.prog 51 #[u, v] w (RetV w (.bool (decide (a = b)))) := by
  refine en0 10 Tryz.func51 ?_
  refine sg (co (Ev.assign (.c (v := .bool false) rfl)) ?_)
  refine nP (sg (mv rfl (co (Ev.convBS Tryz.underlying63 Tryz.underlying5 Tryz.underlying9 (.t rfl) zf) ?_)))
  refine mv rfl (co (Ev.convBS Tryz.underlying63 Tryz.underlying5 Tryz.underlying9 (.t rfl) zf) ?_)
  refine co (Ev.eql_s (.t rfl) (.t rfl)) ?_
  refine asn rfl (nP (ret (done rfl (.tmp rfl .nil) (retE ?_))))
  exact congrArg Value.bool (decide_eq_decide.2 ⟨fun h => by simpa using h, fun h => by rw [h]⟩)
end Go.Proofs.YtakmoeladkajdaaGreat.Oc
namespace Go.Proofs.YtakmoeladkajdaaGreat.Oc
open Go Go.Gx Go.Proofs.YtakmoeladkajdaaGreat.Tri
attribute [simp] putB_length
def adO (b : Nat) (a : SAddr) : OV := ⟨.slice (some ⟨b, 1, none⟩) (bif a.v6 then 16 else 4) 16, rfl⟩
theorem addrB_length (a : SAddr) : (addrB a).length = bif a.v6 then 16 else 4 := by unfold addrB; cases a.v6 <;> simp
theorem isSl_ad {K : Ctx} {L : List Res} {b : Nat} {a : SAddr} (hm : Var b eAddr a 45 ∈ L) (w : World) (h : WInv K L w) : IsSl u8E w (adO b a).v (addrB a) := by
  have h1 := isSl_arr (ptsVar hm SAddr.l_b w h) (by decide) (l := 0) (k := bif a.v6 then 16 else 4) (Nat.zero_le _) (by cases a.v6 <;> decide)
  unfold addrB
  show IsSl u8E w (.slice (some ⟨b, 1, none⟩) (bif a.v6 then 16 else 4) 16) _
  cases hv : a.v6 <;> rw [hv] at h1 <;> exact h1
def bodyB (h : SHeader) (d : List UInt8) (s : UInt16) : List UInt8 :=
  if h.proto = 6 then putB 2 h.srcPort.toUInt64 ++ putB 2 h.dstPort.toUInt64 ++ putB 4 h.seq.toUInt64 ++ [0, 0, 0, 0, 80, h.flags, 255, 255] ++ putB 2 s.toUInt64 ++ [0, 0] ++ d
  else if h.proto = 17 then putB 2 h.srcPort.toUInt64 ++ putB 2 h.dstPort.toUInt64 ++ putB 2 (UInt16.ofInt (8 + (d.length : Int))).toUInt64 ++ putB 2 s.toUInt64 ++ d
  else d
theorem address_ok (a : SAddr) (w : World) : Calls Tryz.prog 83 #[eAddr.val a] w (RetN w (fun _ : Nat => True) (fun b => (adO b a).v) (fun b => [Var b eAddr a 45])) := by
  refine en0 9 Tryz.func83 ?_
  refine sg (cons (box (E := eAddr) (.t rfl) (fun b1 => ?_)))
  refine co (Ev.assign (.c (v := (Go.Value.slice none 0 0)) rfl)) ?_
  refine nP (seq (sg (co (fA 0 (.t rfl)) ?_)))
  refine co (Ev.ldx a.v6 ty4 (.t rfl) SAddr.l_v6) ?_
  refine nP ?_
  first | refine condD rfl (fun h0 => ?_) (fun h0 => ?_) | refine cond rfl (fun h0 => ?_) (fun h0 => ?_)
  · try simp only [Gx.nb] at h0
    refine sg (co (fA 1 (.t rfl)) ?_)
    refine co (Ev.sliceArr (l := 0) (h := 16) Tryz.underlying43 ty5 (.t rfl) rfl rfl (fun _ => by decide)) ?_
    refine asn rfl (nP (ret (pR (done rfl (.tmp rfl .nil) (fun w I => ?_)))))
    exact retN b1 trivial (by unfold adO; rw [h0]; rfl) (by exact List.Sublist.refl _) w I
  · try simp only [Gx.nb] at h0
    refine skip (pN (sg (co (fA 1 (.t rfl)) ?_)))
    refine co (Ev.sliceArr (l := 0) (h := 4) Tryz.underlying43 ty5 (.t rfl) rfl (.c (v := I 4) rfl) (fun _ => by decide)) ?_
    refine asn rfl (nP (ret (done rfl (.tmp rfl .nil) (fun w I => ?_))))
    exact retN b1 trivial (by unfold adO; rw [h0]; rfl) (by exact List.Sublist.refl _) w I
theorem en82 : Gx.Enters Tryz.prog 82 := Gx.Enters.mk' zk
theorem en81 : Gx.Enters Tryz.prog 81 := Gx.Enters.mk' zk
theorem behind_ok (h : SHeader) (d : List UInt8) (w : World) (hd : IsSl u8E w h.data.v d) (hl : d.length ≤ 4096) : Calls Tryz.prog 59 #[eHeader.val h] w (RetO w u8E (bodyB h d 0) 5) := by
  refine en0 51 Tryz.func59 ?_
  refine sg (cons (box (E := eHeader) (.t rfl) (fun b1 => ?_)))
  refine co (Ev.assign (.c (v := (Go.Value.slice none 0 0)) rfl)) ?_
  refine nP (sg (co (Ev.assign (.c (v := (Go.Value.slice none 0 0)) rfl)) ?_))
  refine takeNil u8E 5 ?_
  refine nP (seq (sg (co (fA 34 (.t rfl)) ?_)))
  refine co (Ev.ldx h.proto ty5 (.t rfl) SHeader.l_proto) ?_
  refine cons (callv en60 (.cons (.t rfl) .nil) (fun w I => middle_ok _ w) ?_)
  refine co (Ev.eql_i (.t rfl) (.c (v := I 0) rfl)) ?_
  refine nP ?_
  first | refine condD rfl (fun h0 => ?_) (fun h0 => ?_) | refine cond rfl (fun h0 => ?_) (fun h0 => ?_)
  · try simp only [Gx.nb] at h0
    refine sg (mv rfl (co (fA 42 (.t rfl)) ?_))
    refine co (Ev.ldx h.data ty63 (.t rfl) SHeader.l_data) ?_
    refine cons (app (E := u8E) Tryz.underlying63 ty5 zb5 zs5 (.t rfl) (.t rfl) (fun v2 => ?_) (hsrc := (fun w I => hd.keep0 I.keeps)) (hby := ⟨by (show _ ≤ 9223372036854775807); first | omega | (simp; done) | (simp; omega), by first | omega | (simp; done) | (simp; omega)⟩))
    refine asn rfl (nP (ret (pR (done rfl (.tmp rfl .nil) (retOE zm ?_)))))
    have h6 : h.proto ≠ 6 := fun e => by rw [e] at h0; exact absurd h0 (by decide)
    have h17 : h.proto ≠ 17 := fun e => by rw [e] at h0; exact absurd h0 (by decide)
    unfold bodyB
    rw [if_neg h6, if_neg h17]; rfl
  · try simp only [Gx.nb] at h0
    refine skip (pN (sg (mv rfl (co (fA 35 (.t rfl)) ?_))))
    refine co (Ev.ldx h.srcPort ty46 (.t rfl) SHeader.l_srcPort) ?_
    refine cons (callo en82 (.cons (.t rfl) (.cons (.t rfl) .nil)) (fun w I => put_uint16_ok _ _ _ w (by first | exact io w I | exact IsSl.keep0 (by assumption) I.keeps) (by first | assumption | omega | (simp [putB_length]; done) | (simp [putB_length]; omega))) (fun v3 => ?_))
    refine asn rfl (nP (sg (mv rfl (co (fA 36 (.t rfl)) ?_))))
    refine co (Ev.ldx h.dstPort ty46 (.t rfl) SHeader.l_dstPort) ?_
    refine cons (callo en82 (.cons (.t rfl) (.cons (.t rfl) .nil)) (fun w I => put_uint16_ok _ _ _ w (by first | exact io w I | exact IsSl.keep0 (by assumption) I.keeps) (by first | assumption | omega | (simp [putB_length]; done) | (simp [putB_length]; omega))) (fun v4 => ?_))
    refine asn rfl (nP (seq (sg (co (fA 34 (.t rfl)) ?_))))
    refine co (Ev.ldx h.proto ty5 (.t rfl) SHeader.l_proto) ?_
    refine co (Ev.eql_u8 (.t rfl) (.c (v := U8 6) rfl)) ?_
    refine nP ?_
    first | refine condD rfl (fun h1 => ?_) (fun h1 => ?_) | refine cond rfl (fun h1 => ?_) (fun h1 => ?_)
    · try simp only [Gx.nb] at h1
      refine sg (mv rfl (co (fA 41 (.t rfl)) ?_))
      refine co (Ev.ldx h.seq ty91 (.t rfl) SHeader.l_seq) ?_
      refine cons (callo en81 (.cons (.t rfl) (.cons (.t rfl) .nil)) (fun w I => put_uint32_ok _ _ _ w (by first | exact io w I | exact IsSl.keep0 (by assumption) I.keeps) (by first | assumption | omega | (simp [putB_length]; done) | (simp [putB_length]; omega))) (fun v5 => ?_))
      refine asn rfl (nP (sg (mv rfl (cons (callo en81 (.cons (.t rfl) (.cons (.c (v := U32 0) rfl) .nil)) (fun w I => put_uint32_ok _ _ _ w (by first | exact io w I | exact IsSl.keep0 (by assumption) I.keeps) (by first | assumption | omega | (simp [putB_length]; done) | (simp [putB_length]; omega))) (fun v6 => ?_))))))
      refine asn rfl (nP (sg (mv rfl (co (fA 40 (.t rfl)) ?_))))
      refine co (Ev.ldx h.flags ty5 (.t rfl) SHeader.l_flags) ?_
      refine cons (buildSlice (E := u8E) Tryz.underlying63 ty5 z5 (.cons (.c (v := U8 80) rfl) (.cons (.t rfl) .nil)) rfl rfl (fun v7 => ?_))
      refine cons (app (E := u8E) Tryz.underlying63 ty5 zb5 zs5 (.t rfl) (.t rfl) (fun v8 => ?_) (hby := ⟨by (show _ ≤ 9223372036854775807); first | omega | (simp; done) | (simp; omega), by first | omega | (simp; done) | (simp; omega)⟩))
      refine asn rfl (nP (sg (mv rfl (cons (callo en82 (.cons (.t rfl) (.cons (.c (v := U16 65535) rfl) .nil)) (fun w I => put_uint16_ok _ _ _ w (by first | exact io w I | exact IsSl.keep0 (by assumption) I.keeps) (by first | assumption | omega | (simp [putB_length]; done) | (simp [putB_length]; omega))) (fun v9 => ?_))))))
      refine asn rfl (nP (region (mv rfl (cons (callo en81 (.cons (.t rfl) (.cons (.c (v := U32 0) rfl) .nil)) (fun w I => put_uint32_ok _ _ _ w (by first | exact io w I | exact IsSl.keep0 (by assumption) I.keeps) (by first | assumption | omega | (simp [putB_length]; done) | (simp [putB_length]; omega))) (fun v10 => ?_))))))
      refine asn rfl (nP (sg (mv rfl (co (fA 42 (.t rfl)) ?_))))
      refine co (Ev.ldx h.data ty63 (.t rfl) SHeader.l_data) ?_
      refine cons (app (E := u8E) Tryz.underlying63 ty5 zb5 zs5 (.t rfl) (.t rfl) (fun v11 => ?_) (hsrc := (fun w I => hd.keep0 I.keeps)) (hby := ⟨by (show _ ≤ 9223372036854775807); first | omega | (simp; done) | (simp; omega), by first | omega | (simp; done) | (simp; omega)⟩))
      refine asn rfl (nP (ret (done rfl (.tmp rfl .nil) (retOE zm ?_))))
      by_cases h6 : h.proto = 6
      · first
          | (exfalso; simp_all; done)
          | (unfold bodyB
             rw [if_pos h6]
             simp only [List.nil_append, List.append_assoc]
             rfl)
      · first
          | (exfalso; simp_all; done)
          | (have h17 : h.proto = 17 := by
               by_cases e : h.proto = 17
               · exact e
               · exact absurd (by unfold midN; rw [if_neg h6, if_neg e]) h0
             unfold bodyB
             rw [if_neg h6, if_pos h17]
             simp only [List.nil_append, List.append_assoc])
    · try simp only [Gx.nb] at h1
      refine sg (mv rfl (co (fA 42 (.t rfl)) ?_))
      refine co (Ev.ldx h.data ty63 (.t rfl) SHeader.l_data) ?_
      refine co (Ev.len Tryz.underlying63 (.t rfl) (fun w I => hd.keep0 I.keeps)) ?_
      refine co (Ev.add_i (.c (v := I 8) rfl) (.t rfl) (fun _ => zo)) ?_
      refine co (Ev.conv_i_u16 Tryz.underlying46 Tryz.underlying3 (.t rfl)) ?_
      refine cons (callo en82 (.cons (.t rfl) (.cons (.t rfl) .nil)) (fun w I => put_uint16_ok _ _ _ w (by first | exact io w I | exact IsSl.keep0 (by assumption) I.keeps) (by first | assumption | omega | (simp [putB_length]; done) | (simp [putB_length]; omega))) (fun v12 => ?_))
      refine asn rfl (nP (region (mv rfl (cons (callo en82 (.cons (.t rfl) (.cons (.c (v := U16 0) rfl) .nil)) (fun w I => put_uint16_ok _ _ _ w (by first | exact io w I | exact IsSl.keep0 (by assumption) I.keeps) (by first | assumption | omega | (simp [putB_length]; done) | (simp [putB_length]; omega))) (fun v13 => ?_))))))
      refine asn rfl (nP (sg (mv rfl (co (fA 42 (.t rfl)) ?_))))
      refine co (Ev.ldx h.data ty63 (.t rfl) SHeader.l_data) ?_
      refine cons (app (E := u8E) Tryz.underlying63 ty5 zb5 zs5 (.t rfl) (.t rfl) (fun v14 => ?_) (hsrc := (fun w I => hd.keep0 I.keeps)) (hby := ⟨by (show _ ≤ 9223372036854775807); first | omega | (simp; done) | (simp; omega), by first | omega | (simp; done) | (simp; omega)⟩))
      refine asn rfl (nP (ret (done rfl (.tmp rfl .nil) (retOE zm ?_))))
      by_cases h6 : h.proto = 6
      · first
          | (exfalso; simp_all; done)
          | (unfold bodyB
             rw [if_pos h6]
             simp only [List.nil_append, List.append_assoc]
             rfl)
      · first
          | (exfalso; simp_all; done)
          | (have h17 : h.proto = 17 := by
               by_cases e : h.proto = 17
               · exact e
               · exact absurd (by unfold midN; rw [if_neg h6, if_neg e]) h0
             unfold bodyB
             rw [if_neg h6, if_pos h17]
             simp only [List.nil_append, List.append_assoc])
end Go.Proofs.YtakmoeladkajdaaGreat.Oc
namespace Go.Proofs.YtakmoeladkajdaaGreat.Oc
open Go Go.Gx Go.Proofs.YtakmoeladkajdaaGreat.Tri
def layB (xs : List UInt8) (p : Int) (s : UInt16) : List UInt8 := (xs.set p.toNat (shr16 s 8).toUInt8).set (p + 1).toNat s.toUInt8
@[simp] theorem layB_length (xs : List UInt8) (p : Int) (s : UInt16) : (layB xs p s).length = xs.length := by simp [layB]
theorem lay_ok (v : Value) (xs : List UInt8) (p : Int) (s : UInt16) (w : World) (hp : 0 ≤ p ∧ p + 1 < xs.length) (hx : (OwnS v u8E xs 5).A w) (hb : ∀ b, v.ownBlock = some b → b < w.heap.size) : Calls Tryz.prog 61 #[v, I p, U16 s] w (RetW v u8E xs (layB xs p s) 5 (.tuple #[]) w) := by
  have hbl : xs.length ≤ 9223372036854775807 := (IsSl.of_own hx).le
  refine enter (OwnS v u8E xs 5).foot 18 [OwnS v u8E xs 5] Tryz.func61 rfl rfl (Nat.le_of_ble_eq_true rfl) (start_own hx hb) ?_
  refine sg (mv rfl (mv rfl (mv rfl (co (Ev.shr_u16 (.t rfl) (.c rfl) (fun _ => by decide)) ?_))))
  refine co (Ev.conv_u16_u8 Tryz.underlying5 Tryz.underlying46 (.t rfl)) ?_
  refine co (Ev.indexAddr Tryz.underlying63 ty5 (.t rfl) (.t rfl) (fun w I => io w I) (fun _ => zo)) ?_
  refine cons (storeS0 ty5 (.t rfl) (.t rfl) zu (by omega) ?_)
  refine nP (region (mv rfl (mv rfl (co (Ev.add_i (.t rfl) (.c (v := I 1) rfl) (fun _ => zo)) ?_))))
  refine mv rfl (co (Ev.conv_u16_u8 Tryz.underlying5 Tryz.underlying46 (.t rfl)) ?_)
  refine co (Ev.indexAddr Tryz.underlying63 ty5 (.t rfl) (.t rfl) (fun w I => io w I) (fun _ => by rw [List.length_set]; omega)) ?_
  refine cons (storeS0 ty5 (.t rfl) (.t rfl) zu (by rw [List.length_set]; omega) ?_)
  refine nil (done' rfl .nil (fun w I => ?_))
  exact ⟨rfl, I.keeps, (I.own _ List.mem_cons_self).1⟩
end Go.Proofs.YtakmoeladkajdaaGreat.Oc
namespace Go.Proofs.YtakmoeladkajdaaGreat.Oc
open Go Go.Gx Go.Proofs.YtakmoeladkajdaaGreat.Tri
def pseudoB (h : SHeader) (n : Int) : List UInt8 := bif h.src.v6 then putB 4 (UInt32.ofInt n).toUInt64 ++ [0, 0, 0, h.proto] else [0, h.proto] ++ putB 2 (UInt16.ofInt n).toUInt64
def sumH (h : SHeader) (b : List UInt8) : UInt16 :=
  if sumB (addrB h.src ++ addrB h.dst ++ pseudoB h b.length ++ b) = 0 ∧ h.proto = 17 then 65535 else sumB (addrB h.src ++ addrB h.dst ++ pseudoB h b.length ++ b)
theorem en83 : Gx.Enters Tryz.prog 83 := Gx.Enters.mk' zk
theorem z63 : (Tryz.prog.info? 63).bind (·.zero) = some ((ovE nilSl).val (ovE nilSl).zero) := by kernel_rfl
theorem en84 : Gx.Enters Tryz.prog 84 := Gx.Enters.mk' zk
theorem sum16_ok (h : SHeader) (v : Value) (b : List UInt8) (w : World) (hb : IsSl u8E w v b) (hl : b.length ≤ 4096) : Calls Tryz.prog 63 #[eHeader.val h, v] w (RetV w (U16 (sumH h b))) := by
  obtain ⟨o, rfl⟩ : ∃ o : OV, o.v = v := ⟨⟨v, hb.one⟩, rfl⟩
  refine en0 43 Tryz.func63 ?_
  refine sg (cons (box (E := eHeader) (.t rfl) (fun b1 => ?_)))
  refine co (Ev.assign (.c (v := U16 0) rfl)) ?_
  refine nP (sg (co (fA 34 (.t rfl)) ?_))
  refine co (Ev.ldx h.proto ty5 (.t rfl) SHeader.l_proto) ?_
  refine cons (buildSlice (E := u8E) Tryz.underlying63 ty5 z5 (.cons (.c (v := U8 0) rfl) (.cons (.t rfl) .nil)) rfl rfl (fun v2 => ?_))
  refine mv rfl (co (Ev.len Tryz.underlying63 (.t rfl) zf) ?_)
  refine co (Ev.conv_i_u16 Tryz.underlying46 Tryz.underlying3 (.t rfl)) ?_
  refine cons (callo en82 (.cons (.t rfl) (.cons (.t rfl) .nil)) (fun w I => put_uint16_ok _ _ _ w (by first | exact io w I | exact IsSl.keep0 (by assumption) I.keeps) (by first | assumption | omega | (simp [putB_length]; done) | (simp [putB_length]; omega))) (fun v3 => ?_))
  refine asn rfl (nP (seq (sg (co (fA 0 (.t rfl)) ?_))))
  refine co (fA 0 (.t rfl)) ?_
  refine co (Ev.ldx h.src.v6 ty4 (.t rfl) (Lens.comp SHeader.l_src SAddr.l_v6)) ?_
  refine nP ?_
  first | refine condD rfl (fun h0 => ?_) (fun h0 => ?_) | refine cond rfl (fun h0 => ?_) (fun h0 => ?_)
  · try simp only [Gx.nb] at h0
    refine draw' zk ?_
    refine tk 0 rfl (Ev.move (.t rfl)) ?_
    refine tk 1 rfl (Ev.len Tryz.underlying63 (.t rfl) zf) ?_
    refine tk 2 rfl (Ev.conv_i_u32 Tryz.underlying91 Tryz.underlying3 (.t rfl)) ?_
    refine tk 4 rfl (fA 34 (.t rfl)) ?_
    refine tk 5 rfl (Ev.ldx h.proto ty5 (.t rfl) SHeader.l_proto) ?_
    refine all [3, 6] zk (by decide) (.cons rfl ?_ (.cons rfl ?_ .nil))
    · refine (callo en81 (.cons (.c (v := (Go.Value.slice none 0 0)) rfl) (.cons (.t rfl) .nil)) (fun w I => put_uint32_ok _ _ _ w (IsSl.nil _ w) (by first | assumption | omega | (simp [putB_length]; done) | (simp [putB_length]; omega))) (fun v4 => ?_))
      refine hdn (al1 6 rfl ((buildSlice (E := u8E) Tryz.underlying63 ty5 z5 (.cons (.c (v := U8 0) rfl) (.cons (.c (v := U8 0) rfl) (.cons (.c (v := U8 0) rfl) (.cons (.t rfl) .nil)))) rfl rfl (fun v5 => ?_))))
      refine hdn (al1 7 rfl ((app (E := u8E) Tryz.underlying63 ty5 zb5 zs5 (.t rfl) (.t rfl) (fun v6 => ?_) (hby := ⟨by (show _ ≤ 9223372036854775807); first | omega | (simp; done) | (simp; omega), by first | omega | (simp; done) | (simp; omega)⟩))))
      refine hdn (tk 8 rfl (Ev.assign (.t rfl)) ?_)
      refine ovr (pN (seq (draw' zk ?_)))
      refine tk 0 rfl (fA 0 (.t rfl)) ?_
      refine tk 1 rfl (Ev.ldx h.src ty45 (.t rfl) SHeader.l_src) ?_
      refine tk 3 rfl (fA 17 (.t rfl)) ?_
      refine tk 4 rfl (Ev.ldx h.dst ty45 (.t rfl) SHeader.l_dst) ?_
      refine tk 6 rfl (Ev.move (.t rfl)) ?_
      refine tk 7 rfl (Ev.move (.t rfl)) ?_
      refine al1 2 rfl ((calln (X := Nat) (fun _ => True) (fun b => (adO b h.src).v) (fun b => [Var b eAddr h.src 45]) en83 (.cons (.t rfl) .nil) (fun w I => address_ok _ w) (fun n1 _ => ?_)))
      refine hdn (al1 5 rfl ((calln (X := Nat) (fun _ => True) (fun b => (adO b h.dst).v) (fun b => [Var b eAddr h.dst 45]) en83 (.cons (.t rfl) .nil) (fun w I => address_ok _ w) (fun n2 _ => ?_))))
      refine hdn (al1 8 rfl ((buildSlice (E := (ovE nilSl)) Tryz.underlying233 ty63 z63 (.cons (.t rfl) (.cons (.t rfl) (.cons (.t rfl) (.cons (.t rfl) .nil)))) rfl rfl (fun v7 => ?_))))
      refine hdn (al1 9 rfl ((callv en84 (.cons (.t rfl) .nil) (fun w I => sum_ok _ _ w (IsSS.mk' (io w I) (.cons (isSl_ad zm w I) (.cons (isSl_ad zm w I) (.cons (io w I) (.cons (hb.keep0 I.keeps) .nil)))))) ?_)))
      refine hdn (tk 10 rfl (Ev.assign (.t rfl)) ?_)
      refine ovr (pN (seq (sg (mv rfl (co (Ev.eql_u16 (.t rfl) (.c (v := U16 0) rfl)) ?_)))))
      refine mv rfl (cg rfl rfl (fA 34 (.t rfl)) ?_)
      refine cg rfl rfl (Ev.ldx h.proto ty5 (.g rfl id) SHeader.l_proto) ?_
      refine cg rfl rfl (Ev.eql_u8 (.g rfl id) (.c (v := U8 17) rfl)) ?_
      refine co (Ev.pkA (.t rfl) rfl) ?_
      refine nP ?_
      first | refine condD rfl (fun h1 => ?_) (fun h1 => ?_) | refine cond rfl (fun h1 => ?_) (fun h1 => ?_)
      · try simp only [Gx.nb] at h1
        refine sg (co (Ev.assign (.c (v := U16 65535) rfl)) ?_)
        refine nP (ret (pR (done rfl (.tmp rfl .nil) (retE ?_))))
        unfold sumH pseudoB
        rw [h0]
        simp only [cond_true, cond_false]
        have hs : ∀ x y : UInt16, (x = 0 ∧ h.proto = 17 → y = 65535) → (¬ (x = 0 ∧ h.proto = 17) → y = x) → y = if x = 0 ∧ h.proto = 17 then 65535 else x := fun x y p q => by split <;> simp_all
        refine congrArg U16 (hs _ _ (fun e => ?_) (fun e => ?_))
        · first
            | rfl
            | (exfalso
               simp only [List.append_assoc, List.cons_append, List.nil_append, List.flatten_cons, List.flatten_nil, List.append_nil] at e h1
               rcases h1 with h | h
               · exact h e.1
               · exact h e.2)
        · first
            | (exfalso
               exact e (by simpa using h1))
            | (simp; done)
      · try simp only [Gx.nb] at h1
        refine skip (pN (sg (mv rfl (asn rfl (nP (ret (done rfl (.tmp rfl .nil) (retE ?_))))))))
        unfold sumH pseudoB
        rw [h0]
        simp only [cond_true, cond_false]
        have hs : ∀ x y : UInt16, (x = 0 ∧ h.proto = 17 → y = 65535) → (¬ (x = 0 ∧ h.proto = 17) → y = x) → y = if x = 0 ∧ h.proto = 17 then 65535 else x := fun x y p q => by split <;> simp_all
        refine congrArg U16 (hs _ _ (fun e => ?_) (fun e => ?_))
        · first
            | rfl
            | (exfalso
               simp only [List.append_assoc, List.cons_append, List.nil_append, List.flatten_cons, List.flatten_nil, List.append_nil] at e h1
               rcases h1 with h | h
               · exact h e.1
               · exact h e.2)
        · first
            | (exfalso
               exact e (by simpa using h1))
            | (simp; done)
    · refine (buildSlice (E := u8E) Tryz.underlying63 ty5 z5 (.cons (.c (v := U8 0) rfl) (.cons (.c (v := U8 0) rfl) (.cons (.c (v := U8 0) rfl) (.cons (.t rfl) .nil)))) rfl rfl (fun v8 => ?_))
      refine hdn (al1 3 rfl ((callo en81 (.cons (.c (v := (Go.Value.slice none 0 0)) rfl) (.cons (.t rfl) .nil)) (fun w I => put_uint32_ok _ _ _ w (IsSl.nil _ w) (by first | assumption | omega | (simp [putB_length]; done) | (simp [putB_length]; omega))) (fun v9 => ?_))))
      refine hdn (al1 7 rfl ((app (E := u8E) Tryz.underlying63 ty5 zb5 zs5 (.t rfl) (.t rfl) (fun v10 => ?_) (hby := ⟨by (show _ ≤ 9223372036854775807); first | omega | (simp; done) | (simp; omega), by first | omega | (simp; done) | (simp; omega)⟩))))
      refine hdn (tk 8 rfl (Ev.assign (.t rfl)) ?_)
      refine ovr (pN (seq (draw' zk ?_)))
      refine tk 0 rfl (fA 0 (.t rfl)) ?_
      refine tk 1 rfl (Ev.ldx h.src ty45 (.t rfl) SHeader.l_src) ?_
      refine tk 3 rfl (fA 17 (.t rfl)) ?_
      refine tk 4 rfl (Ev.ldx h.dst ty45 (.t rfl) SHeader.l_dst) ?_
      refine tk 6 rfl (Ev.move (.t rfl)) ?_
      refine tk 7 rfl (Ev.move (.t rfl)) ?_
      refine al1 2 rfl ((calln (X := Nat) (fun _ => True) (fun b => (adO b h.src).v) (fun b => [Var b eAddr h.src 45]) en83 (.cons (.t rfl) .nil) (fun w I => address_ok _ w) (fun n1 _ => ?_)))
      refine hdn (al1 5 rfl ((calln (X := Nat) (fun _ => True) (fun b => (adO b h.dst).v) (fun b => [Var b eAddr h.dst 45]) en83 (.cons (.t rfl) .nil) (fun w I => address_ok _ w) (fun n2 _ => ?_))))
      refine hdn (al1 8 rfl ((buildSlice (E := (ovE nilSl)) Tryz.underlying233 ty63 z63 (.cons (.t rfl) (.cons (.t rfl) (.cons (.t rfl) (.cons (.t rfl) .nil)))) rfl rfl (fun v11 => ?_))))
      refine hdn (al1 9 rfl ((callv en84 (.cons (.t rfl) .nil) (fun w I => sum_ok _ _ w (IsSS.mk' (io w I) (.cons (isSl_ad zm w I) (.cons (isSl_ad zm w I) (.cons (io w I) (.cons (hb.keep0 I.keeps) .nil)))))) ?_)))
      refine hdn (tk 10 rfl (Ev.assign (.t rfl)) ?_)
      refine ovr (pN (seq (sg (mv rfl (co (Ev.eql_u16 (.t rfl) (.c (v := U16 0) rfl)) ?_)))))
      refine mv rfl (cg rfl rfl (fA 34 (.t rfl)) ?_)
      refine cg rfl rfl (Ev.ldx h.proto ty5 (.g rfl id) SHeader.l_proto) ?_
      refine cg rfl rfl (Ev.eql_u8 (.g rfl id) (.c (v := U8 17) rfl)) ?_
      refine co (Ev.pkA (.t rfl) rfl) ?_
      refine nP ?_
      first | refine condD rfl (fun h1 => ?_) (fun h1 => ?_) | refine cond rfl (fun h1 => ?_) (fun h1 => ?_)
      · try simp only [Gx.nb] at h1
        refine sg (co (Ev.assign (.c (v := U16 65535) rfl)) ?_)
        refine nP (ret (pR (done rfl (.tmp rfl .nil) (retE ?_))))
        unfold sumH pseudoB
        rw [h0]
        simp only [cond_true, cond_false]
        have hs : ∀ x y : UInt16, (x = 0 ∧ h.proto = 17 → y = 65535) → (¬ (x = 0 ∧ h.proto = 17) → y = x) → y = if x = 0 ∧ h.proto = 17 then 65535 else x := fun x y p q => by split <;> simp_all
        refine congrArg U16 (hs _ _ (fun e => ?_) (fun e => ?_))
        · first
            | rfl
            | (exfalso
               simp only [List.append_assoc, List.cons_append, List.nil_append, List.flatten_cons, List.flatten_nil, List.append_nil] at e h1
               rcases h1 with h | h
               · exact h e.1
               · exact h e.2)
        · first
            | (exfalso
               exact e (by simpa using h1))
            | (simp; done)
      · try simp only [Gx.nb] at h1
        refine skip (pN (sg (mv rfl (asn rfl (nP (ret (done rfl (.tmp rfl .nil) (retE ?_))))))))
        unfold sumH pseudoB
        rw [h0]
        simp only [cond_true, cond_false]
        have hs : ∀ x y : UInt16, (x = 0 ∧ h.proto = 17 → y = 65535) → (¬ (x = 0 ∧ h.proto = 17) → y = x) → y = if x = 0 ∧ h.proto = 17 then 65535 else x := fun x y p q => by split <;> simp_all
        refine congrArg U16 (hs _ _ (fun e => ?_) (fun e => ?_))
        · first
            | rfl
            | (exfalso
               simp only [List.append_assoc, List.cons_append, List.nil_append, List.flatten_cons, List.flatten_nil, List.append_nil] at e h1
               rcases h1 with h | h
               · exact h e.1
               · exact h e.2)
        · first
            | (exfalso
               exact e (by simpa using h1))
            | (simp; done)
  · try simp only [Gx.nb] at h0
    refine skip (pN (seq (draw' zk ?_)))
    refine tk 0 rfl (fA 0 (.t rfl)) ?_
    refine tk 1 rfl (Ev.ldx h.src ty45 (.t rfl) SHeader.l_src) ?_
    refine tk 3 rfl (fA 17 (.t rfl)) ?_
    refine tk 4 rfl (Ev.ldx h.dst ty45 (.t rfl) SHeader.l_dst) ?_
    refine tk 6 rfl (Ev.move (.t rfl)) ?_
    refine tk 7 rfl (Ev.move (.t rfl)) ?_
    refine al1 2 rfl ((calln (X := Nat) (fun _ => True) (fun b => (adO b h.src).v) (fun b => [Var b eAddr h.src 45]) en83 (.cons (.t rfl) .nil) (fun w I => address_ok _ w) (fun n1 _ => ?_)))
    refine hdn (al1 5 rfl ((calln (X := Nat) (fun _ => True) (fun b => (adO b h.dst).v) (fun b => [Var b eAddr h.dst 45]) en83 (.cons (.t rfl) .nil) (fun w I => address_ok _ w) (fun n2 _ => ?_))))
    refine hdn (al1 8 rfl ((buildSlice (E := (ovE nilSl)) Tryz.underlying233 ty63 z63 (.cons (.t rfl) (.cons (.t rfl) (.cons (.t rfl) (.cons (.t rfl) .nil)))) rfl rfl (fun v12 => ?_))))
    refine hdn (al1 9 rfl ((callv en84 (.cons (.t rfl) .nil) (fun w I => sum_ok _ _ w (IsSS.mk' (io w I) (.cons (isSl_ad zm w I) (.cons (isSl_ad zm w I) (.cons (io w I) (.cons (hb.keep0 I.keeps) .nil)))))) ?_)))
    refine hdn (tk 10 rfl (Ev.assign (.t rfl)) ?_)
    refine ovr (pN (seq (sg (mv rfl (co (Ev.eql_u16 (.t rfl) (.c (v := U16 0) rfl)) ?_)))))
    refine mv rfl (cg rfl rfl (fA 34 (.t rfl)) ?_)
    refine cg rfl rfl (Ev.ldx h.proto ty5 (.g rfl id) SHeader.l_proto) ?_
    refine cg rfl rfl (Ev.eql_u8 (.g rfl id) (.c (v := U8 17) rfl)) ?_
    refine co (Ev.pkA (.t rfl) rfl) ?_
    refine nP ?_
    first | refine condD rfl (fun h1 => ?_) (fun h1 => ?_) | refine cond rfl (fun h1 => ?_) (fun h1 => ?_)
    · try simp only [Gx.nb] at h1
      refine sg (co (Ev.assign (.c (v := U16 65535) rfl)) ?_)
      refine nP (ret (pR (done rfl (.tmp rfl .nil) (retE ?_))))
      unfold sumH pseudoB
      rw [h0]
      simp only [cond_true, cond_false]
      have hs : ∀ x y : UInt16, (x = 0 ∧ h.proto = 17 → y = 65535) → (¬ (x = 0 ∧ h.proto = 17) → y = x) → y = if x = 0 ∧ h.proto = 17 then 65535 else x := fun x y p q => by split <;> simp_all
      refine congrArg U16 (hs _ _ (fun e => ?_) (fun e => ?_))
      · first
          | rfl
          | (exfalso
             simp only [List.append_assoc, List.cons_append, List.nil_append, List.flatten_cons, List.flatten_nil, List.append_nil] at e h1
             rcases h1 with h | h
             · exact h e.1
             · exact h e.2)
      · first
          | (exfalso
             exact e (by simpa using h1))
          | (simp; done)
    · try simp only [Gx.nb] at h1
      refine skip (pN (sg (mv rfl (asn rfl (nP (ret (done rfl (.tmp rfl .nil) (retE ?_))))))))
      unfold sumH pseudoB
      rw [h0]
      simp only [cond_true, cond_false]
      have hs : ∀ x y : UInt16, (x = 0 ∧ h.proto = 17 → y = 65535) → (¬ (x = 0 ∧ h.proto = 17) → y = x) → y = if x = 0 ∧ h.proto = 17 then 65535 else x := fun x y p q => by split <;> simp_all
      refine congrArg U16 (hs _ _ (fun e => ?_) (fun e => ?_))
      · first
          | rfl
          | (exfalso
             simp only [List.append_assoc, List.cons_append, List.nil_append, List.flatten_cons, List.flatten_nil, List.append_nil] at e h1
             rcases h1 with h | h
             · exact h e.1
             · exact h e.2)
      · first
          | (exfalso
             exact e (by simpa using h1))
          | (simp; done)
end Go.Proofs.YtakmoeladkajdaaGreat.Oc
namespace Go.Proofs.YtakmoeladkajdaaGreat.Oc
open Go Go.Gx Go.Proofs.YtakmoeladkajdaaGreat.Tri
def headF (h : SHeader) (n : Int) : List UInt8 := [69, h.class_] ++ putB 2 (UInt16.ofInt (20 + n)).toUInt64 ++ putB 2 h.id.toUInt16.toUInt64 ++ putB 2 (16384 : UInt16).toUInt64 ++ [h.tTL, h.proto, 0, 0] ++ addrB h.src ++ addrB h.dst
def headB (h : SHeader) (n : Int) : List UInt8 :=
  if h.src.v6 = true then putB 4 (1610612736 ||| shl32 h.class_.toUInt32 20 ||| h.id).toUInt64 ++ putB 2 (UInt16.ofInt n).toUInt64 ++ [h.proto, h.tTL] ++ addrB h.src ++ addrB h.dst
  else layB (headF h n) 10 (sumB (headF h n))
theorem headF_length (h : SHeader) (n : Int) : (headF h n).length = 12 + (addrB h.src).length + (addrB h.dst).length := by
  simp [headF]
  omega
theorem addrB_le (a : SAddr) : 4 ≤ (addrB a).length ∧ (addrB a).length ≤ 16 := by rw [addrB_length]; cases a.v6 <;> decide
theorem en61 : Gx.Enters Tryz.prog 61 := Gx.Enters.mk' zk
set_option maxRecDepth 8000 in
theorem head_ok (h : SHeader) (n : Int) (w : World) (hn : 0 ≤ n ∧ n ≤ 4096) : Calls Tryz.prog 52 #[eHeader.val h, I n] w (RetO w u8E (headB h n) 5) := by
  have a1 := addrB_le h.src
  have a2 := addrB_le h.dst
  refine en0 84 Tryz.func52 ?_
  refine sg (cons (box (E := eHeader) (.t rfl) (fun b1 => ?_)))
  refine co (Ev.assign (.c (v := (Go.Value.slice none 0 0)) rfl)) ?_
  refine nP (sg (co (Ev.assign (.c (v := (Go.Value.slice none 0 0)) rfl)) ?_))
  refine takeNil u8E 5 ?_
  refine nP (seq (sg (co (fA 0 (.t rfl)) ?_)))
  refine co (fA 0 (.t rfl)) ?_
  refine co (Ev.ldx h.src.v6 ty4 (.t rfl) (Lens.comp SHeader.l_src SAddr.l_v6)) ?_
  refine nP ?_
  first | refine condD rfl (fun h0 => ?_) (fun h0 => ?_) | refine cond rfl (fun h0 => ?_) (fun h0 => ?_)
  · try simp only [Gx.nb] at h0
    refine sg (co (Ev.assign (.c (v := U32 1610612736) rfl)) ?_)
    refine nP (sg (mv rfl (co (fA 38 (.t rfl)) ?_)))
    refine co (Ev.ldx h.class_ ty5 (.t rfl) SHeader.l_class_) ?_
    refine co (Ev.conv_u8_u32 Tryz.underlying91 Tryz.underlying5 (.t rfl)) ?_
    refine co (Ev.shl_u32 (.t rfl) (.c rfl) (fun _ => by decide)) ?_
    refine co (Ev.or_u32 (.t rfl) (.t rfl)) ?_
    refine asn rfl (nP (sg (mv rfl (co (fA 39 (.t rfl)) ?_))))
    refine co (Ev.ldx h.id ty91 (.t rfl) SHeader.l_id) ?_
    refine co (Ev.or_u32 (.t rfl) (.t rfl)) ?_
    refine asn rfl (nP (sg (mv rfl (mv rfl (cons (callo en81 (.cons (.t rfl) (.cons (.t rfl) .nil)) (fun w I => put_uint32_ok _ _ _ w (by first | exact io w I | exact IsSl.keep0 (by assumption) I.keeps) (by first | assumption | omega | (simp [putB_length]; done) | (simp [putB_length]; omega))) (fun v2 => ?_)))))))
    refine asn rfl (nP (sg (mv rfl (mv rfl (co (Ev.conv_i_u16 Tryz.underlying46 Tryz.underlying3 (.t rfl)) ?_)))))
    refine cons (callo en82 (.cons (.t rfl) (.cons (.t rfl) .nil)) (fun w I => put_uint16_ok _ _ _ w (by first | exact io w I | exact IsSl.keep0 (by assumption) I.keeps) (by first | assumption | omega | (simp [putB_length]; done) | (simp [putB_length]; omega))) (fun v3 => ?_))
    refine asn rfl (nP (sg (mv rfl (co (fA 34 (.t rfl)) ?_))))
    refine co (Ev.ldx h.proto ty5 (.t rfl) SHeader.l_proto) ?_
    refine co (fA 37 (.t rfl)) ?_
    refine co (Ev.ldx h.tTL ty5 (.t rfl) SHeader.l_tTL) ?_
    refine cons (buildSlice (E := u8E) Tryz.underlying63 ty5 z5 (.cons (.t rfl) (.cons (.t rfl) .nil)) rfl rfl (fun v4 => ?_))
    refine cons (app (E := u8E) Tryz.underlying63 ty5 zb5 zs5 (.t rfl) (.t rfl) (fun v5 => ?_) (hby := ⟨by (show _ ≤ 9223372036854775807); first | omega | (simp; done) | (simp; omega), by first | omega | (simp; done) | (simp; omega)⟩))
    refine asn rfl (nP (sg (mv rfl (co (fA 0 (.t rfl)) ?_))))
    refine co (Ev.ldx h.src ty45 (.t rfl) SHeader.l_src) ?_
    refine cons (calln (X := Nat) (fun _ => True) (fun b => (adO b h.src).v) (fun b => [Var b eAddr h.src 45]) en83 (.cons (.t rfl) .nil) (fun w I => address_ok _ w) (fun n9 _ => ?_))
    refine cons (app (E := u8E) Tryz.underlying63 ty5 zb5 zs5 (.t rfl) (.t rfl) (fun v6 => ?_) (hsrc := (fun w I => isSl_ad (by repeat first | exact mH | apply mT | apply mA) w I)) (hby := ⟨by (show _ ≤ 9223372036854775807); first | omega | (simp; done) | (simp; omega), by first | omega | (simp; done) | (simp; omega)⟩))
    refine asn rfl (nP (sg (mv rfl (co (fA 17 (.t rfl)) ?_))))
    refine co (Ev.ldx h.dst ty45 (.t rfl) SHeader.l_dst) ?_
    refine cons (calln (X := Nat) (fun _ => True) (fun b => (adO b h.dst).v) (fun b => [Var b eAddr h.dst 45]) en83 (.cons (.t rfl) .nil) (fun w I => address_ok _ w) (fun n10 _ => ?_))
    refine cons (app (E := u8E) Tryz.underlying63 ty5 zb5 zs5 (.t rfl) (.t rfl) (fun v7 => ?_) (hsrc := (fun w I => isSl_ad (by repeat first | exact mH | apply mT | apply mA) w I)) (hby := ⟨by (show _ ≤ 9223372036854775807); first | omega | (simp; done) | (simp; omega), by first | omega | (simp; done) | (simp; omega)⟩))
    refine asn rfl (nP (ret (pR (done rfl (.tmp rfl .nil) (retOE zm ?_)))))
    unfold headB
    rw [if_pos h0]
    simp only [List.nil_append, List.append_assoc]
    rfl
  · try simp only [Gx.nb] at h0
    refine skip (pN (sg (mv rfl (co (fA 38 (.t rfl)) ?_))))
    refine co (Ev.ldx h.class_ ty5 (.t rfl) SHeader.l_class_) ?_
    refine cons (buildSlice (E := u8E) Tryz.underlying63 ty5 z5 (.cons (.c (v := U8 69) rfl) (.cons (.t rfl) .nil)) rfl rfl (fun v8 => ?_))
    refine cons (app (E := u8E) Tryz.underlying63 ty5 zb5 zs5 (.t rfl) (.t rfl) (fun v9 => ?_) (hby := ⟨by (show _ ≤ 9223372036854775807); first | omega | (simp; done) | (simp; omega), by first | omega | (simp; done) | (simp; omega)⟩))
    refine asn rfl (nP (sg (mv rfl (mv rfl (co (Ev.add_i (.c (v := I 20) rfl) (.t rfl) (fun _ => zo)) ?_)))))
    refine co (Ev.conv_i_u16 Tryz.underlying46 Tryz.underlying3 (.t rfl)) ?_
    refine cons (callo en82 (.cons (.t rfl) (.cons (.t rfl) .nil)) (fun w I => put_uint16_ok _ _ _ w (by first | exact io w I | exact IsSl.keep0 (by assumption) I.keeps) (by first | assumption | omega | (simp [putB_length]; done) | (simp [putB_length]; omega))) (fun v10 => ?_))
    refine asn rfl (nP (sg (mv rfl (co (fA 39 (.t rfl)) ?_))))
    refine co (Ev.ldx h.id ty91 (.t rfl) SHeader.l_id) ?_
    refine co (Ev.conv_u32_u16 Tryz.underlying46 Tryz.underlying91 (.t rfl)) ?_
    refine cons (callo en82 (.cons (.t rfl) (.cons (.t rfl) .nil)) (fun w I => put_uint16_ok _ _ _ w (by first | exact io w I | exact IsSl.keep0 (by assumption) I.keeps) (by first | assumption | omega | (simp [putB_length]; done) | (simp [putB_length]; omega))) (fun v11 => ?_))
    refine asn rfl (nP (sg (mv rfl (cons (callo en82 (.cons (.t rfl) (.cons (.c (v := U16 16384) rfl) .nil)) (fun w I => put_uint16_ok _ _ _ w (by first | exact io w I | exact IsSl.keep0 (by assumption) I.keeps) (by first | assumption | omega | (simp [putB_length]; done) | (simp [putB_length]; omega))) (fun v12 => ?_))))))
    refine asn rfl (nP (sg (mv rfl (co (fA 37 (.t rfl)) ?_))))
    refine co (Ev.ldx h.tTL ty5 (.t rfl) SHeader.l_tTL) ?_
    refine co (fA 34 (.t rfl)) ?_
    refine co (Ev.ldx h.proto ty5 (.t rfl) SHeader.l_proto) ?_
    refine cons (buildSlice (E := u8E) Tryz.underlying63 ty5 z5 (.cons (.t rfl) (.cons (.t rfl) (.cons (.c (v := U8 0) rfl) (.cons (.c (v := U8 0) rfl) .nil)))) rfl rfl (fun v13 => ?_))
    refine cons (app (E := u8E) Tryz.underlying63 ty5 zb5 zs5 (.t rfl) (.t rfl) (fun v14 => ?_) (hby := ⟨by (show _ ≤ 9223372036854775807); first | omega | (simp; done) | (simp; omega), by first | omega | (simp; done) | (simp; omega)⟩))
    refine asn rfl (nP (sg (mv rfl (co (fA 0 (.t rfl)) ?_))))
    refine co (Ev.ldx h.src ty45 (.t rfl) SHeader.l_src) ?_
    refine cons (calln (X := Nat) (fun _ => True) (fun b => (adO b h.src).v) (fun b => [Var b eAddr h.src 45]) en83 (.cons (.t rfl) .nil) (fun w I => address_ok _ w) (fun n16 _ => ?_))
    refine cons (app (E := u8E) Tryz.underlying63 ty5 zb5 zs5 (.t rfl) (.t rfl) (fun v15 => ?_) (hsrc := (fun w I => isSl_ad (by repeat first | exact mH | apply mT | apply mA) w I)) (hby := ⟨by (show _ ≤ 9223372036854775807); first | omega | (simp; done) | (simp; omega), by first | omega | (simp; done) | (simp; omega)⟩))
    refine asn rfl (nP (sg (mv rfl (co (fA 17 (.t rfl)) ?_))))
    refine co (Ev.ldx h.dst ty45 (.t rfl) SHeader.l_dst) ?_
    refine cons (calln (X := Nat) (fun _ => True) (fun b => (adO b h.dst).v) (fun b => [Var b eAddr h.dst 45]) en83 (.cons (.t rfl) .nil) (fun w I => address_ok _ w) (fun n17 _ => ?_))
    refine cons (app (E := u8E) Tryz.underlying63 ty5 zb5 zs5 (.t rfl) (.t rfl) (fun v16 => ?_) (hsrc := (fun w I => isSl_ad (by repeat first | exact mH | apply mT | apply mA) w I)) (hby := ⟨by (show _ ≤ 9223372036854775807); first | omega | (simp; done) | (simp; omega), by first | omega | (simp; done) | (simp; omega)⟩))
    refine asn rfl (nP (sg (mv rfl (mv rfl (cons (buildSlice (E := (ovE nilSl)) Tryz.underlying233 ty63 z63 (.cons (.t rfl) .nil) rfl rfl (fun v17 => ?_)))))))
    refine cons (callv en84 (.cons (.t rfl) .nil) (fun w I => sum_ok _ _ w (IsSS.mk' (io w I) (.cons (io w I) .nil))) ?_)
    refine cons (callw (E := u8E) (xs := headF h n) (T := 5) zu en61 (.cons (.t rfl) (.cons (.c (v := I 10) rfl) (.cons (.t rfl) .nil))) (fun w I => lay_ok _ (headF h n) _ _ w ⟨by omega, by rw [headF_length]; omega⟩ (I.own (OwnS _ u8E (headF h n) 5) (by repeat first | exact mH | apply mT | apply mA)).1 (fun b hb => ((I.own (OwnS _ u8E (headF h n) 5) (by repeat first | exact mH | apply mT | apply mA)).2 b hb).2)) ?_)
    refine nP (sg (mv rfl (asn rfl (nP (ret (done rfl (.tmp rfl .nil) (retOE zm ?_)))))))
    unfold headB
    rw [if_neg (by simp [h0])]
    exact congrArg (fun z => layB (headF h n) 10 (sumB z)) (by simp only [headF, List.flatten_cons, List.flatten_nil, List.append_nil, List.nil_append])
end Go.Proofs.YtakmoeladkajdaaGreat.Oc
namespace Go.Proofs.YtakmoeladkajdaaGreat.Oc
open Go Go.Gx Go.Proofs.YtakmoeladkajdaaGreat.Tri
def restB (h : SHeader) (d : List UInt8) : List UInt8 := if midN h.proto = 0 then bodyB h d 0 else layB (bodyB h d 0) (atN h.proto) (sumH h (bodyB h d 0))
def makeB (h : SHeader) (d : List UInt8) : List UInt8 := headB h (restB h d).length ++ restB h d
theorem bodyB_length (h : SHeader) (d : List UInt8) (s : UInt16) : ((bodyB h d s).length : Int) = midN h.proto + d.length := by
  unfold bodyB midN
  split
  · simp; omega
  · split
    · simp; omega
    · simp
@[simp] theorem restB_length (h : SHeader) (d : List UInt8) : ((restB h d).length : Int) = midN h.proto + d.length := by
  unfold restB
  split
  · exact bodyB_length h d 0
  · rw [layB_length]; exact bodyB_length h d 0
theorem midN_cases (p : UInt8) : midN p = 0 ∨ p = 6 ∧ midN p = 20 ∨ p = 17 ∧ midN p = 8 := by unfold midN; split <;> (try split) <;> simp_all
theorem atN_le (p : UInt8) (h : midN p ≠ 0) : 0 ≤ atN p ∧ atN p + 1 < midN p := by
  rcases midN_cases p with e | ⟨rfl, e⟩ | ⟨rfl, e⟩
  · exact absurd e h
  · rw [e]; decide
  · rw [e]; decide
theorem checkH_len (h : SHeader) (n : Int) (hc : checkH h n = 0) : n ≤ 2048 := by
  unfold checkH at hc
  have h1 : 0 ≤ frontN h := by unfold frontN; cases h.src.v6 <;> decide
  have h2 : 0 ≤ midN h.proto := by rcases midN_cases h.proto with e | ⟨_, e⟩ | ⟨_, e⟩ <;> omega
  split at hc
  · simp at hc
  · split at hc
    · simp at hc
    · split at hc
      · simp at hc
      · omega
theorem headB_le (h : SHeader) (n : Int) : (headB h n).length ≤ 44 := by
  have a1 := addrB_le h.src
  have a2 := addrB_le h.dst
  unfold headB
  split
  · simp; omega
  · rw [layB_length, headF_length]; omega
def RetM (w : World) (h : SHeader) (d : List UInt8) : Ending → World → Prop :=
  RetN w (fun o : OV => checkH h d.length ≠ 0 → o = nilSl) (fun o => .tuple #[o.v, I (checkH h d.length)]) (fun o => if checkH h d.length = 0 then [OwnS o.v u8E (makeB h d) 5] else [])
theorem en59 : Gx.Enters Tryz.prog 59 := Gx.Enters.mk' zk
theorem en62 : Gx.Enters Tryz.prog 62 := Gx.Enters.mk' zk
theorem en63 : Gx.Enters Tryz.prog 63 := Gx.Enters.mk' zk
theorem en52 : Gx.Enters Tryz.prog 52 := Gx.Enters.mk' zk
theorem make_ok (h : SHeader) (d : List UInt8) (w : World) (hd : IsSl u8E w h.data.v d) (hl : d.length ≤ 1152921504606846975) : Calls Tryz.prog 38 #[eHeader.val h] w (RetM w h d) := by
  refine en0 31 Tryz.func38 ?_
  refine sg (cons (box (E := eHeader) (.t rfl) (fun b1 => ?_)))
  refine co (Ev.assign (.c (v := (Go.Value.slice none 0 0)) rfl)) ?_
  refine co (Ev.assign (.c (v := I 0) rfl)) ?_
  refine nP (seq (sg (co (Ev.ldx h ty93 (.t rfl) (Lens.id _)) ?_)))
  refine cons (callv en55 (.cons (.t rfl) .nil) (fun w I => pcheck_ok _ d w (hd.keep0 I.keeps) (by omega)) ?_)
  refine asn rfl (nP (sg (mv rfl (co (Ev.neq_i (.t rfl) (.c (v := I 0) rfl)) ?_))))
  refine nP ?_
  first | refine condD rfl (fun hbad => ?_) (fun hok => ?_) | refine cond rfl (fun hbad => ?_) (fun hok => ?_)
  · try simp only [Gx.nb] at hbad
    refine sg (mv rfl (co (Ev.assign (.c (v := (Go.Value.slice none 0 0)) rfl)) ?_))
    refine asn rfl (nP (ret (pR (done rfl (.tmp rfl (.tmp rfl .nil)) (fun w I => ?_)))))
    exact retN nilSl (fun _ => rfl) rfl (by rw [if_neg hbad]; exact List.nil_sublist _) w I
  · try simp only [Gx.nb] at hok
    have hcl := checkH_len h d.length hok
    have hbl := bodyB_length h d 0
    have hrl := restB_length h d
    have hmc := midN_cases h.proto
    refine skip (pN (sg (co (Ev.ldx h ty93 (.t rfl) (Lens.id _)) ?_)))
    refine cons (callo en59 (.cons (.t rfl) .nil) (fun w I => behind_ok _ d w (hd.keep0 I.keeps) (by omega)) (fun v2 => ?_))
    refine asn rfl (nP (cut (X := OV × (List UInt8)) (fun x : OV × (List UInt8) => (x.2 = restB h d)) (fun x : OV × (List UInt8) => [dz, (1, true, .pointer (some ⟨b1, 0, none⟩)), (5, true, x.1.v)]) (fun x : OV × (List UInt8) => [OwnS x.1.v u8E x.2 5, Var b1 eHeader h 93]) ?_ (fun x hx => ?_)))
    · refine sg (co (fA 34 (.t rfl)) ?_)
      refine co (Ev.ldx h.proto ty5 (.t rfl) SHeader.l_proto) ?_
      refine cons (callv en60 (.cons (.t rfl) .nil) (fun w I => middle_ok _ w) ?_)
      refine co (Ev.gtr_i (.t rfl) (.c (v := I 0) rfl)) ?_
      refine nP ?_
      first | refine condD rfl (fun hm => ?_) (fun hm => ?_) | refine cond rfl (fun hm => ?_) (fun hm => ?_)
      · try simp only [Gx.nb] at hm
        have hat := atN_le h.proto (by omega)
        refine drawR Rem.head zk ?_
        refine tk 0 rfl (Ev.move (.t rfl)) ?_
        refine tk 1 rfl (fA 34 (.t rfl)) ?_
        refine tk 2 rfl (Ev.ldx h.proto ty5 (.t rfl) SHeader.l_proto) ?_
        refine tk 4 rfl (Ev.ldx h ty93 (.t rfl) (Lens.id _)) ?_
        refine tk 5 rfl (Ev.move (.t rfl)) ?_
        refine al1 3 rfl ((callv en62 (.cons (.t rfl) .nil) (fun w I => at_ok _ w) ?_))
        refine hdn (al1 6 rfl ((callv en63 (.cons (.t rfl) (.cons (.t rfl) .nil)) (fun w I => sum16_ok _ _ _ w (io w I) (by omega)) ?_)))
        refine hdn (al1 7 rfl ((callw (E := u8E) (xs := bodyB h d 0) (T := 5) zu en61 (.cons (.t rfl) (.cons (.t rfl) (.cons (.t rfl) .nil))) (fun w I => lay_ok _ (bodyB h d 0) _ _ w (by omega) (I.own (OwnS _ u8E (bodyB h d 0) 5) zm).1 (fun b hb => ((I.own (OwnS _ u8E (bodyB h d 0) 5) zm).2 b hb).2)) ?_)))
        refine hdn (ovr (pN (mt (X := OV × (List UInt8)) (_, _) ?_)))
        · try dsimp only
          unfold restB
          first
            | exact (if_neg (by omega)).symm
            | exact (if_pos (by omega)).symm
      · try simp only [Gx.nb] at hm
        refine skip (pN (mt (X := OV × (List UInt8)) (_, _) ?_))
        · try dsimp only
          unfold restB
          first
            | exact (if_neg (by omega)).symm
            | exact (if_pos (by omega)).symm
    obtain ⟨o, xs⟩ := x
    have hxs : xs = restB h d := hx
    clear hx
    show Sat _ _ [dz, (1, true, .pointer (some ⟨b1, 0, none⟩)), (5, true, o.v)] [OwnS o.v u8E xs 5, Var b1 eHeader h 93]
    subst hxs
    have hhl := headB_le h (restB h d).length
    refine sg (co (Ev.ldx h ty93 (.t rfl) (Lens.id _)) ?_)
    refine mv rfl (co (Ev.len Tryz.underlying63 (.t rfl) zf) ?_)
    refine cons (callo en52 (.cons (.t rfl) (.cons (.t rfl) .nil)) (fun w I => head_ok _ _ w (by omega)) (fun v3 => ?_))
    refine mv rfl (cons (app (E := u8E) Tryz.underlying63 ty5 zb5 zs5 (.t rfl) (.t rfl) (fun v4 => ?_) (hby := ⟨by (show _ ≤ 9223372036854775807); first | omega | (simp; done) | (simp; omega), by first | omega | (simp; done) | (simp; omega)⟩)))
    refine asn rfl (co (Ev.assign (.c (v := I 0) rfl)) ?_)
    refine nP (ret (done rfl (.tmp rfl (.tmp rfl .nil)) (fun w I => ?_)))
    exact retN _ (fun hn => absurd hok hn) (by rw [hok]; rfl) (by rw [if_pos hok]; exact List.cons_sublist_cons.2 (List.nil_sublist _)) w I
end Go.Proofs.YtakmoeladkajdaaGreat.Oc
namespace Go.Proofs.YtakmoeladkajdaaGreat.Oc
open Go Go.Gx Go.Proofs.YtakmoeladkajdaaGreat.Tri
def cut4 (b : List UInt8) (l k : Nat) : List UInt8 := (b.take k).drop l
def hd4 (b : List UInt8) : SHeader :=
  { eHeader.zero with class_ := b.getD 1 0, id := (takeB b 4 2).1.toUInt16.toUInt32, tTL := b.getD 8 0, proto := b.getD 9 0, src := ⟨false, cpyV (Vector.replicate 16 0) (cut4 b 12 16) 0⟩, dst := ⟨false, cpyV (Vector.replicate 16 0) (cut4 b 16 20) 0⟩ }
def hd6 (b : List UInt8) : SHeader :=
  { eHeader.zero with class_ := (shr32 (takeB b 0 4).1.toUInt32 20).toUInt8, id := (takeB b 0 4).1.toUInt32 &&& 1048575, proto := b.getD 6 0, tTL := b.getD 7 0, src := ⟨true, vecOf 16 (cut4 b 8 24) 0⟩, dst := ⟨true, vecOf 16 (cut4 b 24 40) 0⟩ }
def frontB (b : List UInt8) : SHeader × Int × Int :=
  if b.length = 0 then (eHeader.zero, 0, 160)
  else if shr8 (b.getD 0 0) 4 = 4 then
    if b.length < 20 then (eHeader.zero, 0, 160)
    else if b.getD 0 0 ≠ 69 ∨ (takeB b 6 2).1.toUInt16 ≠ 16384 then (eHeader.zero, 0, 161)
    else (hd4 b, ((takeB b 2 2).1.toUInt16.toNat : Int), 0)
  else if shr8 (b.getD 0 0) 4 = 6 then
    if b.length < 40 then (eHeader.zero, 0, 160) else (hd6 b, 40 + ((takeB b 4 2).1.toUInt16.toNat : Int), 0)
  else (eHeader.zero, 0, 161)
theorem z93 : (Tryz.prog.info? 93).bind (·.zero) = some (eHeader.val eHeader.zero) := by kernel_rfl
theorem en79 : Gx.Enters Tryz.prog 79 := Gx.Enters.mk' zk
theorem ty193 : TyOK Tryz.prog 193 (arrE 4 u8E) := TyOK.mk' zk zk
theorem z193 : (Tryz.prog.info? 193).bind (·.zero) = some ((arrE 4 u8E).val (arrE 4 u8E).zero) := by kernel_rfl
theorem en80 : Gx.Enters Tryz.prog 80 := Gx.Enters.mk' zk
set_option maxHeartbeats 1000000 in
theorem fronted_ok (u : Value) (b : List UInt8) (w : World) (hb : IsSl u8E w u b) : Calls Tryz.prog 49 #[u] w (RetV w (.tuple #[eHeader.val (frontB b).1, I (frontB b).2.1, I (frontB b).2.2])) := by
  have hbl := hb.le
  have hx16 := (takeB b 4 2).1.toUInt16.toNat_lt
  refine en0 133 Tryz.func49 ?_
  refine sg (cons (alloc z93 (fun b1 => ?_)))
  refine co (Ev.assign (.c (v := I 0) rfl)) ?_
  refine co (Ev.assign (.c (v := I 0) rfl)) ?_
  refine nP (seq (sg (mv rfl (co (Ev.len Tryz.underlying63 (.t rfl) zf) ?_))))
  refine co (Ev.eql_i (.t rfl) (.c (v := I 0) rfl)) ?_
  refine nP ?_
  first | refine condD rfl (fun h0 => ?_) (fun h0 => ?_) | refine cond rfl (fun h0 => ?_) (fun h0 => ?_)
  · try simp only [Gx.nb] at h0
    refine sg (co (Ev.ldv ty93 (.t rfl) (Lens.id _)) ?_)
    refine cons (stv ty93 (Lens.id _) (.t rfl) (.t rfl) ?_)
    refine co (Ev.assign (.c (v := I 0) rfl)) ?_
    refine co (Ev.assign (.c (v := I 160) rfl)) ?_
    refine nP (ret (pR (done rfl (.cell rfl (fun w I => run_loadVar_pts ty93 (ptsVar zm (Lens.id _) w I)) (.tmp rfl (.tmp rfl .nil))) (retE ?_))))
    have e : frontB b = (eHeader.zero, 0, 160) := by
      unfold frontB
      rw [if_pos (by omega)]
    rw [e]; rfl
  · try simp only [Gx.nb] at h0
    refine skip (pN (seq (sg (mv rfl (co (Ev.indexAddr Tryz.underlying63 ty5 (.t rfl) (.c (v := I 0) rfl) zf (fun _ => zo)) ?_)))))
    refine co (Ev.loadS0 (i := 0) ty5 (.t rfl) zf (fun _ => zo)) ?_
    refine co (Ev.shr_u8 (.t rfl) (.c rfl) (fun _ => by decide)) ?_
    refine nP (block (sg (co (Ev.eql_u8 (.t rfl) (.c (v := U8 4) rfl)) ?_)))
    refine asn rfl (nP ?_)
    first | refine condD rfl (fun h1 => ?_) (fun h1 => ?_) | refine cond rfl (fun h1 => ?_) (fun h1 => ?_)
    · try simp only [Gx.nb] at h1
      refine seq (sg (mv rfl (co (Ev.len Tryz.underlying63 (.t rfl) zf) ?_)))
      refine co (Ev.lss_i (.t rfl) (.c (v := I 20) rfl)) ?_
      refine nP ?_
      first | refine condD rfl (fun h2 => ?_) (fun h2 => ?_) | refine cond rfl (fun h2 => ?_) (fun h2 => ?_)
      · try simp only [Gx.nb] at h2
        refine sg (co (Ev.ldv ty93 (.t rfl) (Lens.id _)) ?_)
        refine cons (stv ty93 (Lens.id _) (.t rfl) (.t rfl) ?_)
        refine co (Ev.assign (.c (v := I 0) rfl)) ?_
        refine co (Ev.assign (.c (v := I 160) rfl)) ?_
        refine nP (ret (pR (bR (pR (done rfl (.cell rfl (fun w I => run_loadVar_pts ty93 (ptsVar zm (Lens.id _) w I)) (.tmp rfl (.tmp rfl .nil))) (retE ?_))))))
        have n0 : ¬ b.length = 0 := by omega
        have e : frontB b = (eHeader.zero, 0, 160) := by
          unfold frontB
          rw [if_neg n0, if_pos (show shr8 (b.getD 0 0) 4 = 4 from h1), if_pos (by omega)]
        rw [e]
        rfl
      · try simp only [Gx.nb] at h2
        refine skip (pN (sg (mv rfl (cons (callv en79 (.cons (.t rfl) (.cons (.c (v := I 2) rfl) .nil)) (fun w I => take_uint16_ok _ _ _ w (by first | exact io w I | exact IsSl.keep0 (by assumption) I.keeps)) ?_)))))
        refine mv rfl (co (Ev.extract (.t rfl) rfl) (co (Ev.extract (.t rfl) rfl) (asn rfl (asn rfl (nP (sg (mv rfl (cons (callv en79 (.cons (.t rfl) (.cons (.c (v := I 4) rfl) .nil)) (fun w I => take_uint16_ok _ _ _ w (by first | exact io w I | exact IsSl.keep0 (by assumption) I.keeps)) ?_)))))))))
        refine mv rfl (co (Ev.extract (.t rfl) rfl) (co (Ev.extract (.t rfl) rfl) (asn rfl (asn rfl (nP (sg (mv rfl (cons (callv en79 (.cons (.t rfl) (.cons (.c (v := I 6) rfl) .nil)) (fun w I => take_uint16_ok _ _ _ w (by first | exact io w I | exact IsSl.keep0 (by assumption) I.keeps)) ?_)))))))))
        refine mv rfl (co (Ev.extract (.t rfl) rfl) (co (Ev.extract (.t rfl) rfl) (asn rfl (asn rfl (nP (seq (sg (mv rfl (co (Ev.indexAddr Tryz.underlying63 ty5 (.t rfl) (.c (v := I 0) rfl) zf (fun _ => zo)) ?_)))))))))
        refine co (Ev.loadS0 (i := 0) ty5 (.t rfl) zf (fun _ => zo)) ?_
        refine co (Ev.neq_u8 (.t rfl) (.c (v := U8 69) rfl)) ?_
        refine mv rfl (cg rfl rfl (Ev.move (.t rfl)) ?_)
        refine cg rfl rfl (Ev.neq_u16 (.g rfl id) (.c (v := U16 16384) rfl)) ?_
        refine co (Ev.pkO (.t rfl) rfl) ?_
        refine nP ?_
        first | refine condD rfl (fun h3 => ?_) (fun h3 => ?_) | refine cond rfl (fun h3 => ?_) (fun h3 => ?_)
        · try simp only [Gx.nb] at h3
          refine sg (co (Ev.ldv ty93 (.t rfl) (Lens.id _)) ?_)
          refine cons (stv ty93 (Lens.id _) (.t rfl) (.t rfl) ?_)
          refine co (Ev.assign (.c (v := I 0) rfl)) ?_
          refine co (Ev.assign (.c (v := I 161) rfl)) ?_
          refine nP (ret (pR (bR (pR (done rfl (.cell rfl (fun w I => run_loadVar_pts ty93 (ptsVar zm (Lens.id _) w I)) (.tmp rfl (.tmp rfl .nil))) (retE ?_))))))
          have n0 : ¬ b.length = 0 := by omega
          have e : frontB b = (eHeader.zero, 0, 161) := by
            unfold frontB
            rw [if_neg n0, if_pos (show shr8 (b.getD 0 0) 4 = 4 from h1), if_neg (by omega), if_pos (show b.getD 0 0 ≠ 69 ∨ (takeB b 6 2).1.toUInt16 ≠ 16384 from h3)]
          rw [e]
          rfl
        · try simp only [Gx.nb] at h3
          refine skip (pN (seq (drawS 2 rfl zr zk ?_)))
          refine tk 0 rfl (Ev.move (.t rfl)) ?_
          refine tk 1 rfl (Ev.indexAddr Tryz.underlying63 ty5 (.t rfl) (.c (v := I 1) rfl) zf (fun _ => zo)) ?_
          refine tk 2 rfl (Ev.loadS0 (i := 1) ty5 (.t rfl) zf (fun _ => zo)) ?_
          refine tk 3 rfl (Ev.move (.t rfl)) ?_
          refine tk 4 rfl (Ev.conv_u16_u32 Tryz.underlying91 Tryz.underlying46 (.t rfl)) ?_
          refine tk 5 rfl (Ev.move (.t rfl)) ?_
          refine tk 6 rfl (Ev.indexAddr Tryz.underlying63 ty5 (.t rfl) (.c (v := I 8) rfl) zf (fun _ => zo)) ?_
          refine tk 7 rfl (Ev.loadS0 (i := 8) ty5 (.t rfl) zf (fun _ => zo)) ?_
          refine tk 8 rfl (Ev.move (.t rfl)) ?_
          refine tk 9 rfl (Ev.indexAddr Tryz.underlying63 ty5 (.t rfl) (.c (v := I 9) rfl) zf (fun _ => zo)) ?_
          refine tk 10 rfl (Ev.loadS0 (i := 9) ty5 (.t rfl) zf (fun _ => zo)) ?_
          refine tk 11 rfl (Ev.buildS (fs := _) (places := [(0, 17), (17, 17), (34, 1), (35, 1), (36, 1), (37, 1), (38, 1), (39, 1), (40, 1), (41, 1), (42, 1)]) z93 rfl Tryz.underlying93 zk (.cons (.t rfl) (.cons (.t rfl) (.cons (.t rfl) (.cons (.t rfl) .nil)))) (Fills.cons SHeader.l_class_ rfl (Fills.cons SHeader.l_id rfl (Fills.cons SHeader.l_tTL rfl (Fills.cons SHeader.l_proto rfl Fills.nil))))) ?_
          refine al1 12 rfl ((stv ty93 (Lens.id _) (.t rfl) (.t rfl) ?_))
          refine hdn (ovr (pN (seq (draw' zk ?_))))
          refine tk 0 rfl (Ev.move (.t rfl)) ?_
          refine tk 1 rfl (Ev.slice Tryz.underlying63 ty5 (.t rfl) (.c (v := I 12) rfl) (.c (v := I 16) rfl) zf (fun _ => zo)) ?_
          refine tk 2 rfl (Ev.toArr Tryz.underlying193 (.t rfl) (fun w I => IsSl.sub (w := w) (by first | exact io w I | exact IsSl.keep0 (by assumption) I.keeps) (by omega) (by omega)) (fun _ => ⟨by decide, by first | omega | (simp; done) | (simp; omega)⟩)) ?_
          refine tk 3 rfl (Ev.loadArr ty193 (.t rfl) (fun w I => IsSl.sub (w := w) (by first | exact io w I | exact IsSl.keep0 (by assumption) I.keeps) (by omega) (by omega)) (fun _ => ⟨by decide, by first | omega | (simp; done) | (simp; omega)⟩)) ?_
          refine tk 4 rfl (Ev.move (.t rfl)) ?_
          refine tk 5 rfl (Ev.slice Tryz.underlying63 ty5 (.t rfl) (.c (v := I 16) rfl) (.c (v := I 20) rfl) zf (fun _ => zo)) ?_
          refine tk 6 rfl (Ev.toArr Tryz.underlying193 (.t rfl) (fun w I => IsSl.sub (w := w) (by first | exact io w I | exact IsSl.keep0 (by assumption) I.keeps) (by omega) (by omega)) (fun _ => ⟨by decide, by first | omega | (simp; done) | (simp; omega)⟩)) ?_
          refine tk 7 rfl (Ev.loadArr ty193 (.t rfl) (fun w I => IsSl.sub (w := w) (by first | exact io w I | exact IsSl.keep0 (by assumption) I.keeps) (by omega) (by omega)) (fun _ => ⟨by decide, by first | omega | (simp; done) | (simp; omega)⟩)) ?_
          refine all [8, 9] zk (by decide) (.cons rfl ?_ (.cons rfl ?_ .nil))
          · refine (alloc z193 (fun b2 => ?_))
            refine hdn (al1 9 rfl ((alloc z193 (fun b3 => ?_))))
            refine hdn (al1 10 rfl ((stv ty193 (Lens.id _) (.t rfl) (.t rfl) ?_)))
            refine hdn (al1 11 rfl ((stv ty193 (Lens.id _) (.t rfl) (.t rfl) ?_)))
            refine hdn (ovr (pN (seq (drawS 2 rfl zr zk ?_))))
            refine tk 0 rfl (fA 0 (.t rfl)) ?_
            refine tk 1 rfl (fA 1 (.t rfl)) ?_
            refine tk 2 rfl (Ev.sliceArr (l := 0) (h := 16) Tryz.underlying43 ty5 (.t rfl) rfl rfl (fun _ => by decide)) ?_
            refine tk 3 rfl (Ev.sliceArr (l := 0) (h := 4) Tryz.underlying193 ty5 (.t rfl) rfl rfl (fun _ => by decide)) ?_
            refine al1 4 rfl ((copyV (z := u8E.zero) Tryz.underlying63 ty5 (Lens.comp SHeader.l_src SAddr.l_b) (.t rfl) (.t rfl) (by first | omega | (simp; done) | (simp; omega)) (fun w I => isSl_arr (ptsVar (by repeat first | exact mH | apply mT | apply mA) (Lens.id _) w I) (by decide) (by decide) (by decide)) zu ?_))
            refine hdn (ovr (pN (seq (drawS 2 rfl zr zk ?_))))
            refine tk 0 rfl (fA 17 (.t rfl)) ?_
            refine tk 1 rfl (fA 1 (.t rfl)) ?_
            refine tk 2 rfl (Ev.sliceArr (l := 0) (h := 16) Tryz.underlying43 ty5 (.t rfl) rfl rfl (fun _ => by decide)) ?_
            refine tk 3 rfl (Ev.sliceArr (l := 0) (h := 4) Tryz.underlying193 ty5 (.t rfl) rfl rfl (fun _ => by decide)) ?_
            refine al1 4 rfl ((copyV (z := u8E.zero) Tryz.underlying63 ty5 (Lens.comp SHeader.l_dst SAddr.l_b) (.t rfl) (.t rfl) (by first | omega | (simp; done) | (simp; omega)) (fun w I => isSl_arr (ptsVar (by repeat first | exact mH | apply mT | apply mA) (Lens.id _) w I) (by decide) (by decide) (by decide)) zu ?_))
            refine hdn (ovr (pN (sg (co (Ev.ldv ty93 (.t rfl) (Lens.id _)) ?_))))
            refine mv rfl (co (Ev.conv_u16_i Tryz.underlying3 Tryz.underlying46 (.t rfl)) ?_)
            refine cons (stv ty93 (Lens.id _) (.t rfl) (.t rfl) ?_)
            refine asn rfl (co (Ev.assign (.c (v := I 0) rfl)) ?_)
            refine nP (ret (bR (pR (done rfl (.cell rfl (fun w I => run_loadVar_pts ty93 (ptsVar zm (Lens.id _) w I)) (.tmp rfl (.tmp rfl .nil))) (retE ?_)))))
            have n0 : ¬ b.length = 0 := by omega
            have e : frontB b = (hd4 b, ((takeB b 2 2).1.toUInt16.toNat : Int), 0) := by
              unfold frontB
              rw [if_neg n0, if_pos (show shr8 (b.getD 0 0) 4 = 4 from h1), if_neg (by omega), if_neg (fun hc => hc.elim (fun k => k h3.1) (fun k => k h3.2))]
            rw [e]
            refine congrArg (fun z => Value.tuple #[eHeader.val z, I _, I 0]) ?_
            have v1 := vecOf_toList (n := 4) (z := u8E.zero) (xs := (b.take 16).drop 12) (by simp; omega)
            have v2 := vecOf_toList (n := 4) (z := u8E.zero) (xs := (b.take 20).drop 16) (by simp; omega)
            simp [hd4, cut4, Lens.comp]
            exact ⟨⟨rfl, by rw [v1]; rfl⟩, ⟨rfl, by rw [v2]; rfl⟩, rfl, rfl, rfl⟩
          · refine (alloc z193 (fun b4 => ?_))
            refine hdn (al1 8 rfl ((alloc z193 (fun b5 => ?_))))
            refine hdn (al1 10 rfl ((stv ty193 (Lens.id _) (.t rfl) (.t rfl) ?_)))
            refine hdn (al1 11 rfl ((stv ty193 (Lens.id _) (.t rfl) (.t rfl) ?_)))
            refine hdn (ovr (pN (seq (drawS 2 rfl zr zk ?_))))
            refine tk 0 rfl (fA 0 (.t rfl)) ?_
            refine tk 1 rfl (fA 1 (.t rfl)) ?_
            refine tk 2 rfl (Ev.sliceArr (l := 0) (h := 16) Tryz.underlying43 ty5 (.t rfl) rfl rfl (fun _ => by decide)) ?_
            refine tk 3 rfl (Ev.sliceArr (l := 0) (h := 4) Tryz.underlying193 ty5 (.t rfl) rfl rfl (fun _ => by decide)) ?_
            refine al1 4 rfl ((copyV (z := u8E.zero) Tryz.underlying63 ty5 (Lens.comp SHeader.l_src SAddr.l_b) (.t rfl) (.t rfl) (by first | omega | (simp; done) | (simp; omega)) (fun w I => isSl_arr (ptsVar (by repeat first | exact mH | apply mT | apply mA) (Lens.id _) w I) (by decide) (by decide) (by decide)) zu ?_))
            refine hdn (ovr (pN (seq (drawS 2 rfl zr zk ?_))))
            refine tk 0 rfl (fA 17 (.t rfl)) ?_
            refine tk 1 rfl (fA 1 (.t rfl)) ?_
            refine tk 2 rfl (Ev.sliceArr (l := 0) (h := 16) Tryz.underlying43 ty5 (.t rfl) rfl rfl (fun _ => by decide)) ?_
            refine tk 3 rfl (Ev.sliceArr (l := 0) (h := 4) Tryz.underlying193 ty5 (.t rfl) rfl rfl (fun _ => by decide)) ?_
            refine al1 4 rfl ((copyV (z := u8E.zero) Tryz.underlying63 ty5 (Lens.comp SHeader.l_dst SAddr.l_b) (.t rfl) (.t rfl) (by first | omega | (simp; done) | (simp; omega)) (fun w I => isSl_arr (ptsVar (by repeat first | exact mH | apply mT | apply mA) (Lens.id _) w I) (by decide) (by decide) (by decide)) zu ?_))
            refine hdn (ovr (pN (sg (co (Ev.ldv ty93 (.t rfl) (Lens.id _)) ?_))))
            refine mv rfl (co (Ev.conv_u16_i Tryz.underlying3 Tryz.underlying46 (.t rfl)) ?_)
            refine cons (stv ty93 (Lens.id _) (.t rfl) (.t rfl) ?_)
            refine asn rfl (co (Ev.assign (.c (v := I 0) rfl)) ?_)
            refine nP (ret (bR (pR (done rfl (.cell rfl (fun w I => run_loadVar_pts ty93 (ptsVar zm (Lens.id _) w I)) (.tmp rfl (.tmp rfl .nil))) (retE ?_)))))
            have n0 : ¬ b.length = 0 := by omega
            have e : frontB b = (hd4 b, ((takeB b 2 2).1.toUInt16.toNat : Int), 0) := by
              unfold frontB
              rw [if_neg n0, if_pos (show shr8 (b.getD 0 0) 4 = 4 from h1), if_neg (by omega), if_neg (fun hc => hc.elim (fun k => k h3.1) (fun k => k h3.2))]
            rw [e]
            refine congrArg (fun z => Value.tuple #[eHeader.val z, I _, I 0]) ?_
            have v1 := vecOf_toList (n := 4) (z := u8E.zero) (xs := (b.take 16).drop 12) (by simp; omega)
            have v2 := vecOf_toList (n := 4) (z := u8E.zero) (xs := (b.take 20).drop 16) (by simp; omega)
            simp [hd4, cut4, Lens.comp]
            exact ⟨⟨rfl, by rw [v1]; rfl⟩, ⟨rfl, by rw [v2]; rfl⟩, rfl, rfl, rfl⟩
    · try simp only [Gx.nb] at h1
      refine sg (co (Ev.eql_u8 (.t rfl) (.c (v := U8 6) rfl)) ?_)
      refine asn rfl (nP ?_)
      first | refine condD rfl (fun h4 => ?_) (fun h4 => ?_) | refine cond rfl (fun h4 => ?_) (fun h4 => ?_)
      · try simp only [Gx.nb] at h4
        refine seq (sg (mv rfl (co (Ev.len Tryz.underlying63 (.t rfl) zf) ?_)))
        refine co (Ev.lss_i (.t rfl) (.c (v := I 40) rfl)) ?_
        refine nP ?_
        first | refine condD rfl (fun h5 => ?_) (fun h5 => ?_) | refine cond rfl (fun h5 => ?_) (fun h5 => ?_)
        · try simp only [Gx.nb] at h5
          refine sg (co (Ev.ldv ty93 (.t rfl) (Lens.id _)) ?_)
          refine cons (stv ty93 (Lens.id _) (.t rfl) (.t rfl) ?_)
          refine co (Ev.assign (.c (v := I 0) rfl)) ?_
          refine co (Ev.assign (.c (v := I 160) rfl)) ?_
          refine nP (ret (pR (bR (pR (done rfl (.cell rfl (fun w I => run_loadVar_pts ty93 (ptsVar zm (Lens.id _) w I)) (.tmp rfl (.tmp rfl .nil))) (retE ?_))))))
          have n0 : ¬ b.length = 0 := by omega
          have e : frontB b = (eHeader.zero, 0, 160) := by
            unfold frontB
            rw [if_neg n0, if_neg (show ¬ shr8 (b.getD 0 0) 4 = 4 from h1), if_pos (show shr8 (b.getD 0 0) 4 = 6 from h4), if_pos (by omega)]
          rw [e]
          rfl
        · try simp only [Gx.nb] at h5
          refine skip (pN (sg (mv rfl (cons (callv en80 (.cons (.t rfl) (.cons (.c (v := I 0) rfl) .nil)) (fun w I => take_uint32_ok _ _ _ w (by first | exact io w I | exact IsSl.keep0 (by assumption) I.keeps)) ?_)))))
          refine mv rfl (co (Ev.extract (.t rfl) rfl) (co (Ev.extract (.t rfl) rfl) (asn rfl (asn rfl (nP (sg (mv rfl (cons (callv en79 (.cons (.t rfl) (.cons (.c (v := I 4) rfl) .nil)) (fun w I => take_uint16_ok _ _ _ w (by first | exact io w I | exact IsSl.keep0 (by assumption) I.keeps)) ?_)))))))))
          refine mv rfl (co (Ev.extract (.t rfl) rfl) (co (Ev.extract (.t rfl) rfl) (asn rfl (asn rfl (nP (seq (drawS 2 rfl zr zk ?_)))))))
          refine tk 0 rfl (Ev.move (.t rfl)) ?_
          refine tk 1 rfl (Ev.shr_u32 (.t rfl) (.c rfl) (fun _ => by decide)) ?_
          refine tk 2 rfl (Ev.conv_u32_u8 Tryz.underlying5 Tryz.underlying91 (.t rfl)) ?_
          refine tk 3 rfl (Ev.move (.t rfl)) ?_
          refine tk 4 rfl (Ev.and_u32 (.t rfl) (.c (v := U32 1048575) rfl)) ?_
          refine tk 5 rfl (Ev.move (.t rfl)) ?_
          refine tk 6 rfl (Ev.indexAddr Tryz.underlying63 ty5 (.t rfl) (.c (v := I 6) rfl) zf (fun _ => zo)) ?_
          refine tk 7 rfl (Ev.loadS0 (i := 6) ty5 (.t rfl) zf (fun _ => zo)) ?_
          refine tk 8 rfl (Ev.move (.t rfl)) ?_
          refine tk 9 rfl (Ev.indexAddr Tryz.underlying63 ty5 (.t rfl) (.c (v := I 7) rfl) zf (fun _ => zo)) ?_
          refine tk 10 rfl (Ev.loadS0 (i := 7) ty5 (.t rfl) zf (fun _ => zo)) ?_
          refine tk 11 rfl (Ev.buildS (fs := _) (places := [(0, 17), (17, 17), (34, 1), (35, 1), (36, 1), (37, 1), (38, 1), (39, 1), (40, 1), (41, 1), (42, 1)]) z93 rfl Tryz.underlying93 zk (.cons (.t rfl) (.cons (.t rfl) (.cons (.t rfl) (.cons (.t rfl) .nil)))) (Fills.cons SHeader.l_class_ rfl (Fills.cons SHeader.l_id rfl (Fills.cons SHeader.l_proto rfl (Fills.cons SHeader.l_tTL rfl Fills.nil))))) ?_
          refine al1 12 rfl ((stv ty93 (Lens.id _) (.t rfl) (.t rfl) ?_))
          refine hdn (ovr (pN (sg (mv rfl (co (Ev.slice Tryz.underlying63 ty5 (.t rfl) (.c (v := I 8) rfl) (.c (v := I 24) rfl) zf (fun _ => zo)) ?_)))))
          refine co (Ev.toArr Tryz.underlying43 (.t rfl) (fun w I => IsSl.sub (w := w) (by first | exact io w I | exact IsSl.keep0 (by assumption) I.keeps) (by omega) (by omega)) (fun _ => ⟨by decide, by first | omega | (simp; done) | (simp; omega)⟩)) ?_
          refine co (Ev.loadArr ty43 (.t rfl) (fun w I => IsSl.sub (w := w) (by first | exact io w I | exact IsSl.keep0 (by assumption) I.keeps) (by omega) (by omega)) (fun _ => ⟨by decide, by first | omega | (simp; done) | (simp; omega)⟩)) ?_
          refine co (Ev.buildS (fs := _) (places := [(0, 1), (1, 16)]) z45 rfl Tryz.underlying45 zk (.cons (.c (v := .bool true) rfl) (.cons (.t rfl) .nil)) (Fills.cons SAddr.l_v6 rfl (Fills.cons SAddr.l_b rfl Fills.nil))) ?_
          refine co (fA 0 (.t rfl)) ?_
          refine cons (stv ty45 SHeader.l_src (.t rfl) (.t rfl) ?_)
          refine nP (sg (mv rfl (co (Ev.slice Tryz.underlying63 ty5 (.t rfl) (.c (v := I 24) rfl) (.c (v := I 40) rfl) zf (fun _ => zo)) ?_)))
          refine co (Ev.toArr Tryz.underlying43 (.t rfl) (fun w I => IsSl.sub (w := w) (by first | exact io w I | exact IsSl.keep0 (by assumption) I.keeps) (by omega) (by omega)) (fun _ => ⟨by decide, by first | omega | (simp; done) | (simp; omega)⟩)) ?_
          refine co (Ev.loadArr ty43 (.t rfl) (fun w I => IsSl.sub (w := w) (by first | exact io w I | exact IsSl.keep0 (by assumption) I.keeps) (by omega) (by omega)) (fun _ => ⟨by decide, by first | omega | (simp; done) | (simp; omega)⟩)) ?_
          refine co (Ev.buildS (fs := _) (places := [(0, 1), (1, 16)]) z45 rfl Tryz.underlying45 zk (.cons (.c (v := .bool true) rfl) (.cons (.t rfl) .nil)) (Fills.cons SAddr.l_v6 rfl (Fills.cons SAddr.l_b rfl Fills.nil))) ?_
          refine co (fA 17 (.t rfl)) ?_
          refine cons (stv ty45 SHeader.l_dst (.t rfl) (.t rfl) ?_)
          refine nP (sg (co (Ev.ldv ty93 (.t rfl) (Lens.id _)) ?_))
          refine mv rfl (co (Ev.conv_u16_i Tryz.underlying3 Tryz.underlying46 (.t rfl)) ?_)
          refine co (Ev.add_i (.c (v := I 40) rfl) (.t rfl) (fun _ => zo)) ?_
          refine cons (stv ty93 (Lens.id _) (.t rfl) (.t rfl) ?_)
          refine asn rfl (co (Ev.assign (.c (v := I 0) rfl)) ?_)
          refine nP (ret (bR (pR (done rfl (.cell rfl (fun w I => run_loadVar_pts ty93 (ptsVar zm (Lens.id _) w I)) (.tmp rfl (.tmp rfl .nil))) (retE ?_)))))
          have n0 : ¬ b.length = 0 := by omega
          have e : frontB b = (hd6 b, 40 + ((takeB b 4 2).1.toUInt16.toNat : Int), 0) := by
            unfold frontB
            rw [if_neg n0, if_neg (show ¬ shr8 (b.getD 0 0) 4 = 4 from h1), if_pos (show shr8 (b.getD 0 0) 4 = 6 from h4), if_neg (by omega)]
          rw [e]
          refine congrArg (fun z => Value.tuple #[eHeader.val z, I _, I 0]) ?_
          simp [hd6, cut4, Lens.comp]
          exact ⟨rfl, rfl, rfl, rfl⟩
      · try simp only [Gx.nb] at h4
        refine skip (bN (pN (sg (co (Ev.ldv ty93 (.t rfl) (Lens.id _)) ?_))))
        refine cons (stv ty93 (Lens.id _) (.t rfl) (.t rfl) ?_)
        refine co (Ev.assign (.c (v := I 0) rfl)) ?_
        refine co (Ev.assign (.c (v := I 161) rfl)) ?_
        refine nP (ret (done rfl (.cell rfl (fun w I => run_loadVar_pts ty93 (ptsVar zm (Lens.id _) w I)) (.tmp rfl (.tmp rfl .nil))) (retE ?_)))
        have n0 : ¬ b.length = 0 := by omega
        have e : frontB b = (eHeader.zero, 0, 161) := by
          unfold frontB
          rw [if_neg n0, if_neg (show ¬ shr8 (b.getD 0 0) 4 = 4 from h1), if_neg (show ¬ shr8 (b.getD 0 0) 4 = 6 from h4)]
        rw [e]
        rfl
end Go.Proofs.YtakmoeladkajdaaGreat.Oc
namespace Go.Proofs.YtakmoeladkajdaaGreat.Oc
open Go Go.Gx Go.Proofs.YtakmoeladkajdaaGreat.Tri
def wD (h : SHeader) (o : OV) : SHeader := { h with data := o }
def midD (h : SHeader) (b : List UInt8) : List UInt8 := (b.take b.length).drop (midN h.proto).toNat
def midH (h : SHeader) (b : List UInt8) : SHeader :=
  if midN h.proto = 0 then h
  else if h.proto = 6 then { h with srcPort := (takeB b 0 2).1.toUInt16, dstPort := (takeB b 2 2).1.toUInt16, seq := (takeB b 4 4).1.toUInt32, flags := b.getD 13 0 }
  else { h with srcPort := (takeB b 0 2).1.toUInt16, dstPort := (takeB b 2 2).1.toUInt16 }
def midS (h : SHeader) (b : List UInt8) : UInt16 := (takeB b (atN h.proto) 2).1.toUInt16
def midE (h : SHeader) (b : List UInt8) : Int :=
  if (b.length : Int) < midN h.proto then 161
  else if midN h.proto = 0 then 0
  else if b ≠ layB (bodyB (midH h b) (midD h b) 0) (atN h.proto) (midS h b) then 161
  else if midS h b ≠ sumH (midH h b) (bodyB (midH h b) (midD h b) 0) then 162 else 0
def RetD (w : World) (h : SHeader) (b : List UInt8) : Ending → World → Prop :=
  RetN w (fun o : OV => (b.length : Int) < midN h.proto → o = h.data) (fun o => .tuple #[eHeader.val (wD (if (b.length : Int) < midN h.proto then h else midH h b) o), I (midE h b)]) (fun o => if (b.length : Int) < midN h.proto then [] else [OwnS o.v u8E (midD h b) 5])
theorem midH_proto (h : SHeader) (b : List UInt8) : (midH h b).proto = h.proto := by unfold midH; split <;> (try split) <;> rfl
theorem midD_length (h : SHeader) (b : List UInt8) (hb : ¬ (b.length : Int) < midN h.proto) : ((midD h b).length : Int) = b.length - midN h.proto := by
  have := midN_cases h.proto
  unfold midD
  simp
  omega
theorem en51 : Gx.Enters Tryz.prog 51 := Gx.Enters.mk' zk
set_option maxRecDepth 8000 in
theorem middled_ok (h : SHeader) (v : Value) (b : List UInt8) (w : World) (hb : IsSl u8E w v b) (hl : b.length ≤ 4096) : Calls Tryz.prog 53 #[eHeader.val h, v] w (RetD w h b) := by
  have hmc := midN_cases h.proto
  have hg : midN (SHeader.l_proto.get h) = midN h.proto := rfl
  refine en0 83 Tryz.func53 ?_
  refine sg (cons (box (E := eHeader) (.t rfl) (fun b1 => ?_)))
  refine cons (alloc z93 (fun b2 => ?_))
  refine co (Ev.assign (.c (v := I 0) rfl)) ?_
  refine nP (sg (co (fA 34 (.t rfl)) ?_))
  refine co (Ev.ldv ty5 (.t rfl) SHeader.l_proto) ?_
  refine cons (callv en60 (.cons (.t rfl) .nil) (fun w I => middle_ok _ w) ?_)
  refine asn rfl (nP (seq (sg (mv rfl (co (Ev.len Tryz.underlying63 (.t rfl) zf) ?_)))))
  refine mv rfl (co (Ev.lss_i (.t rfl) (.t rfl)) ?_)
  refine nP ?_
  first | refine condD rfl (fun h0 => ?_) (fun h0 => ?_) | refine cond rfl (fun h0 => ?_) (fun h0 => ?_)
  · try simp only [Gx.nb] at h0
    have h0 : (b.length : Int) < midN h.proto := h0
    refine sg (co (Ev.ldv ty93 (.t rfl) (Lens.id _)) ?_)
    refine cons (stv ty93 (Lens.id _) (.t rfl) (.t rfl) ?_)
    refine co (Ev.assign (.c (v := I 161) rfl)) ?_
    refine nP (ret (pR (done rfl (.cell rfl (fun w I => run_loadVar_pts ty93 (ptsVar zm (Lens.id _) w I)) (.tmp rfl .nil)) (fun w I => ?_))))
    exact retN h.data (fun _ => rfl) (by rw [if_pos h0]; unfold midE; rw [if_pos h0]; rfl) (by rw [if_pos h0]; exact List.nil_sublist _) w I
  · try simp only [Gx.nb] at h0
    have h0 : ¬ (b.length : Int) < midN h.proto := h0
    refine skip (pN (sg (mv rfl (mv rfl (co (Ev.sliceL Tryz.underlying63 ty5 (.t rfl) (.t rfl) zf (fun _ => zo)) ?_)))))
    refine takeNil u8E 5 ?_
    refine cons (app (E := u8E) Tryz.underlying63 ty5 zb5 zs5 (.c (v := (Go.Value.slice none 0 0)) rfl) (.t rfl) (fun v3 => ?_) (hsrc := (fun w I => IsSl.sub (w := w) (by first | exact io w I | exact IsSl.keep0 (by assumption) I.keeps) (by omega) (by omega))) (hby := ⟨by (show _ ≤ 9223372036854775807); first | omega | (simp; done) | (simp; omega), by first | omega | (simp; done) | (simp; omega)⟩))
    refine co (fA 42 (.t rfl)) ?_
    refine cons (stv ty63 SHeader.l_data (.t rfl) (.t rfl) ?_)
    refine nP (seq (sg (mv rfl (co (Ev.eql_i (.t rfl) (.c (v := I 0) rfl)) ?_))))
    refine nP ?_
    first | refine condD rfl (fun h1 => ?_) (fun h1 => ?_) | refine cond rfl (fun h1 => ?_) (fun h1 => ?_)
    · try simp only [Gx.nb] at h1
      have h1 : midN h.proto = 0 := h1
      refine sg (co (Ev.ldv ty93 (.t rfl) (Lens.id _)) ?_)
      refine cons (stv ty93 (Lens.id _) (.t rfl) (.t rfl) ?_)
      refine co (Ev.assign (.c (v := I 0) rfl)) ?_
      refine nP (ret (pR (done rfl (.cell rfl (fun w I => run_loadVar_pts ty93 (ptsVar zm (Lens.id _) w I)) (.tmp rfl .nil)) (fun w I => ?_))))
      exact retN v3 (fun hn => absurd hn h0) (by unfold midE; rw [if_neg h0, if_neg h0, if_pos h1]; unfold midH; rw [if_pos h1]; rfl) (by rw [if_neg h0]; exact List.cons_sublist_cons.2 (List.nil_sublist _)) w I
    · try simp only [Gx.nb] at h1
      have h1 : ¬ midN h.proto = 0 := h1
      refine skip (pN (sg (mv rfl (cons (callv en79 (.cons (.t rfl) (.cons (.c (v := I 0) rfl) .nil)) (fun w I => take_uint16_ok _ _ _ w (by first | exact io w I | exact IsSl.keep0 (by assumption) I.keeps)) ?_)))))
      refine mv rfl (co (Ev.extract (.t rfl) rfl) (co (Ev.extract (.t rfl) rfl) (co (fA 35 (.t rfl)) ?_)))
      refine cons (stv ty46 SHeader.l_srcPort (.t rfl) (.t rfl) ?_)
      refine nP (sg (mv rfl (cons (callv en79 (.cons (.t rfl) (.cons (.c (v := I 2) rfl) .nil)) (fun w I => take_uint16_ok _ _ _ w (by first | exact io w I | exact IsSl.keep0 (by assumption) I.keeps)) ?_))))
      refine mv rfl (co (Ev.extract (.t rfl) rfl) (co (Ev.extract (.t rfl) rfl) (co (fA 36 (.t rfl)) ?_)))
      refine cons (stv ty46 SHeader.l_dstPort (.t rfl) (.t rfl) ?_)
      refine nP (cut (X := SHeader) (fun x : SHeader => (x = (wD (midH h b) v3))) (fun x : SHeader => [dz, (1, true, v), (2, true, .pointer (some ⟨b1, 0, none⟩)), (4, true, .pointer (some ⟨b2, 0, none⟩)), (6, true, I (midN h.proto))]) (fun x : SHeader => [OwnS v3.v u8E (midD h b) 5, Var b2 eHeader eHeader.zero 93, Var b1 eHeader x 93]) ?_ (fun x hx => ?_))
      · refine sg (co (fA 34 (.t rfl)) ?_)
        refine co (Ev.ldv ty5 (.t rfl) SHeader.l_proto) ?_
        refine co (Ev.eql_u8 (.t rfl) (.c (v := U8 6) rfl)) ?_
        refine nP ?_
        first | refine condD rfl (fun h2 => ?_) (fun h2 => ?_) | refine cond rfl (fun h2 => ?_) (fun h2 => ?_)
        · try simp only [Gx.nb] at h2
          have h2 : h.proto = 6 := h2
          have hm20 : midN h.proto = 20 := by rw [h2]; rfl
          refine sg (mv rfl (cons (callv en80 (.cons (.t rfl) (.cons (.c (v := I 4) rfl) .nil)) (fun w I => take_uint32_ok _ _ _ w (by first | exact io w I | exact IsSl.keep0 (by assumption) I.keeps)) ?_)))
          refine mv rfl (co (Ev.extract (.t rfl) rfl) (co (Ev.extract (.t rfl) rfl) (co (fA 41 (.t rfl)) ?_)))
          refine cons (stv ty91 SHeader.l_seq (.t rfl) (.t rfl) ?_)
          refine nP (region (mv rfl (co (Ev.indexAddr Tryz.underlying63 ty5 (.t rfl) (.c (v := I 13) rfl) zf (fun _ => zo)) ?_)))
          refine co (Ev.loadS0 (i := 13) ty5 (.t rfl) zf (fun _ => zo)) ?_
          refine co (fA 40 (.t rfl)) ?_
          refine cons (stv ty5 SHeader.l_flags (.t rfl) (.t rfl) ?_)
          refine nP (mt (X := SHeader) (_) ?_)
          · try dsimp only
            unfold midH
            rw [if_neg h1]
            first
              | (rw [if_pos h2]; rfl)
              | (rw [if_neg h2]; rfl)
        · try simp only [Gx.nb] at h2
          have h2 : ¬ h.proto = 6 := h2
          refine skip (pN (mt (X := SHeader) (_) ?_))
          · try dsimp only
            unfold midH
            rw [if_neg h1]
            first
              | (rw [if_pos h2]; rfl)
              | (rw [if_neg h2]; rfl)
      obtain ⟨x, rfl⟩ : ∃ y, y = x := ⟨x, rfl⟩
      have hx2 : x = (wD (midH h b) v3) := hx
      clear hx
      show Sat _ _ [dz, (1, true, v), (2, true, .pointer (some ⟨b1, 0, none⟩)), (4, true, .pointer (some ⟨b2, 0, none⟩)), (6, true, I (midN h.proto))] [OwnS v3.v u8E (midD h b) 5, Var b2 eHeader eHeader.zero 93, Var b1 eHeader x 93]
      subst hx2
      have hmp := midH_proto h b
      have hgp : SHeader.l_proto.get (wD (midH h b) v3) = h.proto := hmp
      have hml := midD_length h b h0
      have hbl := bodyB_length (midH h b) (midD h b) 0
      rw [hmp] at hbl
      have hat := atN_le h.proto h1
      have hg2 : (bodyB (wD (midH h b) v3) (midD h b) 0).length = (bodyB (midH h b) (midD h b) 0).length := rfl
      refine sg (mv rfl (co (fA 34 (.t rfl)) ?_))
      refine co (Ev.ldv ty5 (.t rfl) SHeader.l_proto) ?_
      refine cons (callv en62 (.cons (.t rfl) .nil) (fun w I => at_ok _ w) ?_)
      refine cons (callv en79 (.cons (.t rfl) (.cons (.t rfl) .nil)) (fun w I => take_uint16_ok _ _ _ w (by first | exact io w I | exact IsSl.keep0 (by assumption) I.keeps)) ?_)
      refine mv rfl (co (Ev.extract (.t rfl) rfl) (co (Ev.extract (.t rfl) rfl) (asn rfl (asn rfl (nP (sg (co (Ev.ldv ty93 (.t rfl) (Lens.id _)) ?_)))))))
      refine cons (callo en59 (.cons (.t rfl) .nil) (fun w I => behind_ok (wD (midH h b) v3) (midD h b) w (io w I) (by omega)) (fun v4 => ?_))
      refine asn rfl (nP (sg (co (Ev.ldv ty93 (.t rfl) (Lens.id _)) ?_)))
      refine mv rfl (cons (callv en63 (.cons (.t rfl) (.cons (.t rfl) .nil)) (fun w I => sum16_ok _ _ _ w (io w I) (by omega)) ?_))
      refine asn rfl (nP (sg (mv rfl (co (fA 34 (.t rfl)) ?_))))
      refine co (Ev.ldv ty5 (.t rfl) SHeader.l_proto) ?_
      refine cons (callv en62 (.cons (.t rfl) .nil) (fun w I => at_ok _ w) ?_)
      refine mv rfl (cons (callw (E := u8E) (xs := bodyB (midH h b) (midD h b) 0) (T := 5) zu en61 (.cons (.t rfl) (.cons (.t rfl) (.cons (.t rfl) .nil))) (fun w I => lay_ok _ (bodyB (midH h b) (midD h b) 0) _ _ w (by show 0 ≤ atN (midH h b).proto ∧ atN (midH h b).proto + 1 < _; rw [hmp]; omega) (I.own (OwnS _ u8E (bodyB (midH h b) (midD h b) 0) 5) (by repeat first | exact mH | apply mT | apply mA)).1 (fun b3 hb3 => ((I.own (OwnS _ u8E (bodyB (midH h b) (midD h b) 0) 5) (by repeat first | exact mH | apply mT | apply mA)).2 b3 hb3).2)) ?_))
      refine nP (seq (block (sg (mv rfl (mv rfl (cons (callv en51 (.cons (.t rfl) (.cons (.t rfl) .nil)) (fun w I => equal_ok _ _ _ _ w (by first | exact io w I | exact IsSl.keep0 (by assumption) I.keeps) (by first | exact io w I | exact IsSl.keep0 (by assumption) I.keeps)) ?_)))))))
      refine co (Ev.not (.t rfl)) ?_
      refine asn rfl (nP ?_)
      first | refine condD rfl (fun h3 => ?_) (fun h3 => ?_) | refine cond rfl (fun h3 => ?_) (fun h3 => ?_)
      · try simp only [Gx.nb] at h3
        rw [hgp] at h3
        have h3 : b ≠ layB (bodyB (midH h b) (midD h b) 0) (atN h.proto) (midS h b) := h3
        refine sg (co (Ev.ldv ty93 (.t rfl) (Lens.id _)) ?_)
        refine cons (stv ty93 (Lens.id _) (.t rfl) (.t rfl) ?_)
        refine co (Ev.assign (.c (v := I 161) rfl)) ?_
        refine nP (ret (bR (pR (done rfl (.cell rfl (fun w I => run_loadVar_pts ty93 (ptsVar zm (Lens.id _) w I)) (.tmp rfl .nil)) (fun w I => ?_)))))
        have e : midE h b = 161 := by
          unfold midE
          rw [if_neg h0, if_neg h1, if_pos h3]
        exact retN v3 (fun hn => absurd hn h0) (by rw [if_neg h0, e]; rfl) (by rw [if_neg h0]; exact List.Sublist.cons _ (List.cons_sublist_cons.2 (List.nil_sublist _))) w I
      · try simp only [Gx.nb] at h3
        rw [hgp] at h3
        have h3 : ¬ (b ≠ layB (bodyB (midH h b) (midD h b) 0) (atN h.proto) (midS h b)) := fun k => k h3
        refine sg (mv rfl (mv rfl (co (Ev.neq_u16 (.t rfl) (.t rfl)) ?_)))
        refine asn rfl (nP ?_)
        first | refine condD rfl (fun h4 => ?_) (fun h4 => ?_) | refine cond rfl (fun h4 => ?_) (fun h4 => ?_)
        · try simp only [Gx.nb] at h4
          rw [hgp] at h4
          have h4 : midS h b ≠ sumH (midH h b) (bodyB (midH h b) (midD h b) 0) := h4
          refine sg (co (Ev.ldv ty93 (.t rfl) (Lens.id _)) ?_)
          refine cons (stv ty93 (Lens.id _) (.t rfl) (.t rfl) ?_)
          refine co (Ev.assign (.c (v := I 162) rfl)) ?_
          refine nP (ret (bR (pR (done rfl (.cell rfl (fun w I => run_loadVar_pts ty93 (ptsVar zm (Lens.id _) w I)) (.tmp rfl .nil)) (fun w I => ?_)))))
          have e : midE h b = 162 := by
            unfold midE
            rw [if_neg h0, if_neg h1, if_neg h3, if_pos h4]
          exact retN v3 (fun hn => absurd hn h0) (by rw [if_neg h0, e]; rfl) (by rw [if_neg h0]; exact List.Sublist.cons _ (List.cons_sublist_cons.2 (List.nil_sublist _))) w I
        · try simp only [Gx.nb] at h4
          rw [hgp] at h4
          have h4 : ¬ (midS h b ≠ sumH (midH h b) (bodyB (midH h b) (midD h b) 0)) := fun k => k h4
          refine skip (bN (pN (sg (co (Ev.ldv ty93 (.t rfl) (Lens.id _)) ?_))))
          refine cons (stv ty93 (Lens.id _) (.t rfl) (.t rfl) ?_)
          refine co (Ev.assign (.c (v := I 0) rfl)) ?_
          refine nP (ret (done rfl (.cell rfl (fun w I => run_loadVar_pts ty93 (ptsVar zm (Lens.id _) w I)) (.tmp rfl .nil)) (fun w I => ?_)))
          have e : midE h b = 0 := by
            unfold midE
            rw [if_neg h0, if_neg h1, if_neg h3, if_neg h4]
          exact retN v3 (fun hn => absurd hn h0) (by rw [if_neg h0, e]; rfl) (by rw [if_neg h0]; exact List.Sublist.cons _ (List.cons_sublist_cons.2 (List.nil_sublist _))) w I
end Go.Proofs.YtakmoeladkajdaaGreat.Oc
namespace Go.Proofs.YtakmoeladkajdaaGreat.Oc
open Go Go.Gx Go.Proofs.YtakmoeladkajdaaGreat.Tri
def restOf (b : List UInt8) : List UInt8 := (b.take (frontB b).2.1.toNat).drop (frontN (frontB b).1).toNat
def readE (b : List UInt8) : Int :=
  if (frontB b).2.2 ≠ 0 then (frontB b).2.2
  else if (frontB b).2.1 < frontN (frontB b).1 ∨ 2048 < (frontB b).2.1 then 161
  else if (b.length : Int) < (frontB b).2.1 then 160
  else if (frontB b).1.src.v6 = false ∧ headB (frontB b).1 ((frontB b).2.1 - frontN (frontB b).1) ≠ b.take (frontN (frontB b).1).toNat then 162
  else midE (frontB b).1 (restOf b)
def readH (b : List UInt8) : SHeader := if readE b = 0 then midH (frontB b).1 (restOf b) else eHeader.zero
def readN (b : List UInt8) : Int := if readE b = 0 then (frontB b).2.1 else 0
def readD (b : List UInt8) : List UInt8 := midD (frontB b).1 (restOf b)
def RetR (w : World) (b : List UInt8) : Ending → World → Prop :=
  RetN w (fun o : OV => readE b ≠ 0 → o = nilSl) (fun o => .tuple #[eHeader.val (wD (readH b) o), I (readN b), I (readE b)]) (fun o => if readE b = 0 then [OwnS o.v u8E (readD b) 5] else [])
theorem midE_len (h : SHeader) (b : List UInt8) (he : midE h b = 0) : ¬ (b.length : Int) < midN h.proto := fun hn => by
  unfold midE at he
  rw [if_pos hn] at he
  exact absurd he (by decide)
theorem retR_bad {w0 : World} {n : Nat} {L : List Res} {b : List UInt8} {e : Int} (he : readE b = e) (hn : e ≠ 0) : ∀ w, WInv ⟨n, w0, Nope⟩ L w → RetR w0 b (.returned (.tuple #[eHeader.val eHeader.zero, I 0, I e])) w := by
  subst he
  exact retN nilSl (fun _ => rfl) (by unfold readH readN; rw [if_neg hn, if_neg hn]; rfl) (by rw [if_neg hn]; exact List.nil_sublist _)
theorem frontN_cases (h : SHeader) : h.src.v6 = true ∧ frontN h = 40 ∨ h.src.v6 = false ∧ frontN h = 20 := by unfold frontN; cases h.src.v6 <;> simp
theorem en49 : Gx.Enters Tryz.prog 49 := Gx.Enters.mk' zk
theorem en53 : Gx.Enters Tryz.prog 53 := Gx.Enters.mk' zk
set_option maxRecDepth 8000 in
theorem read_ok (v : Value) (b : List UInt8) (w : World) (hb : IsSl u8E w v b) : Calls Tryz.prog 29 #[v] w (RetR w b) := by
  have hfc := frontN_cases (frontB b).1
  have hbl := hb.le
  have hfl : frontN ((Lens.id eHeader).get ((Lens.id eHeader).set eHeader.zero (frontB b).fst)) = frontN (frontB b).1 := rfl
  refine en0 69 Tryz.func29 ?_
  refine sg (cons (alloc z93 (fun b1 => ?_)))
  refine co (Ev.assign (.c (v := I 0) rfl)) ?_
  refine co (Ev.assign (.c (v := I 0) rfl)) ?_
  refine nP (sg (mv rfl (cons (callv en49 (.cons (.t rfl) .nil) (fun w I => fronted_ok _ b w (hb.keep0 I.keeps)) ?_))))
  refine mv rfl (co (Ev.extract (.t rfl) rfl) (co (Ev.extract (.t rfl) rfl) (co (Ev.extract (.t rfl) rfl) (cons (alloc z93 (fun b2 => ?_))))))
  refine cons (stv ty93 (Lens.id _) (.t rfl) (.t rfl) ?_)
  refine asn rfl (asn rfl (nP (seq (sg (mv rfl (co (Ev.neq_i (.t rfl) (.c (v := I 0) rfl)) ?_))))))
  refine nP ?_
  first | refine condD rfl (fun h0 => ?_) (fun h0 => ?_) | refine cond rfl (fun h0 => ?_) (fun h0 => ?_)
  · try simp only [Gx.nb] at h0
    have h0 : ((frontB b).2.2 ≠ 0) := h0
    refine sg (co (Ev.buildS (fs := _) (places := [(0, 17), (17, 17), (34, 1), (35, 1), (36, 1), (37, 1), (38, 1), (39, 1), (40, 1), (41, 1), (42, 1)]) z93 rfl Tryz.underlying93 zk .nil Fills.nil) ?_)
    refine mv rfl (cons (stv ty93 (Lens.id _) (.t rfl) (.t rfl) ?_))
    refine co (Ev.assign (.c (v := I 0) rfl)) ?_
    refine asn rfl (nP (ret (pR (done rfl (.cell rfl (fun w I => run_loadVar_pts ty93 (ptsVar zm (Lens.id _) w I)) (.tmp rfl (.tmp rfl .nil))) (fun w I => ?_)))))
    exact retR_bad (by unfold readE; rw [if_pos h0]) h0 w I
  · try simp only [Gx.nb] at h0
    have h0 : ¬ ((frontB b).2.2 ≠ 0) := fun k => k h0
    refine skip (pN (sg (co (Ev.ldv ty93 (.t rfl) (Lens.id _)) ?_)))
    refine cons (callv en50 (.cons (.t rfl) .nil) (fun w I => front_ok _ w) ?_)
    refine asn rfl (nP (seq (block (sg (mv rfl (mv rfl (co (Ev.lss_i (.t rfl) (.t rfl)) ?_)))))))
    refine mv rfl (cg rfl rfl (Ev.move (.t rfl)) ?_)
    refine cg rfl rfl (Ev.gtr_i (.g rfl id) (.c (v := I 2048) rfl)) ?_
    refine co (Ev.pkO (.t rfl) rfl) ?_
    refine asn rfl (nP ?_)
    first | refine condD rfl (fun h1 => ?_) (fun h1 => ?_) | refine cond rfl (fun h1 => ?_) (fun h1 => ?_)
    · try simp only [Gx.nb] at h1
      have h1 : ((frontB b).2.1 < frontN (frontB b).1 ∨ 2048 < (frontB b).2.1) := h1
      refine sg (co (Ev.buildS (fs := _) (places := [(0, 17), (17, 17), (34, 1), (35, 1), (36, 1), (37, 1), (38, 1), (39, 1), (40, 1), (41, 1), (42, 1)]) z93 rfl Tryz.underlying93 zk .nil Fills.nil) ?_)
      refine cons (stv ty93 (Lens.id _) (.t rfl) (.t rfl) ?_)
      refine co (Ev.assign (.c (v := I 0) rfl)) ?_
      refine co (Ev.assign (.c (v := I 161) rfl)) ?_
      refine nP (ret (bR (pR (done rfl (.cell rfl (fun w I => run_loadVar_pts ty93 (ptsVar zm (Lens.id _) w I)) (.tmp rfl (.tmp rfl .nil))) (fun w I => ?_)))))
      exact retR_bad (by unfold readE; rw [if_neg h0, if_pos h1]) (by decide) w I
    · try simp only [Gx.nb] at h1
      have h1 : ¬ ((frontB b).2.1 < frontN (frontB b).1 ∨ 2048 < (frontB b).2.1) := fun k => k.elim h1.1 h1.2
      refine sg (mv rfl (co (Ev.len Tryz.underlying63 (.t rfl) zf) ?_))
      refine mv rfl (co (Ev.lss_i (.t rfl) (.t rfl)) ?_)
      refine asn rfl (nP ?_)
      first | refine condD rfl (fun h2 => ?_) (fun h2 => ?_) | refine cond rfl (fun h2 => ?_) (fun h2 => ?_)
      · try simp only [Gx.nb] at h2
        have h2 : ((b.length : Int) < (frontB b).2.1) := h2
        refine sg (co (Ev.buildS (fs := _) (places := [(0, 17), (17, 17), (34, 1), (35, 1), (36, 1), (37, 1), (38, 1), (39, 1), (40, 1), (41, 1), (42, 1)]) z93 rfl Tryz.underlying93 zk .nil Fills.nil) ?_)
        refine cons (stv ty93 (Lens.id _) (.t rfl) (.t rfl) ?_)
        refine co (Ev.assign (.c (v := I 0) rfl)) ?_
        refine co (Ev.assign (.c (v := I 160) rfl)) ?_
        refine nP (ret (bR (pR (done rfl (.cell rfl (fun w I => run_loadVar_pts ty93 (ptsVar zm (Lens.id _) w I)) (.tmp rfl (.tmp rfl .nil))) (fun w I => ?_)))))
        exact retR_bad (by unfold readE; rw [if_neg h0, if_neg h1, if_pos h2]) (by decide) w I
      · try simp only [Gx.nb] at h2
        have h2 : ¬ ((b.length : Int) < (frontB b).2.1) := h2
        refine seq (draw' zk ?_)
        refine tk 0 rfl (fA 0 (.t rfl)) ?_
        refine tk 1 rfl (fA 0 (.t rfl)) ?_
        refine tk 2 rfl (Ev.ldv ty4 (.t rfl) (Lens.comp SHeader.l_src SAddr.l_v6)) ?_
        refine tk 3 rfl (Ev.not (.t rfl)) ?_
        refine tk 4 rfl (Ev.move (.t rfl)) ?_
        refine tkg 5 rfl rfl rfl (Ev.ldv ty93 (.t rfl) (Lens.id _)) ?_
        refine tkg 6 rfl rfl rfl (Ev.move (.t rfl)) ?_
        refine tkg 7 rfl rfl rfl (Ev.move (.t rfl)) ?_
        refine tkg 8 rfl rfl rfl (Ev.sub_i (.g rfl id) (.g rfl id) (fun _ => by first | omega | (rename_i hg; simp at hg; omega))) ?_
        refine tkg 10 rfl rfl rfl (Ev.move (.t rfl)) ?_
        refine tkg 11 rfl rfl rfl (Ev.move (.t rfl)) ?_
        refine tkg 12 rfl rfl rfl (Ev.sliceH Tryz.underlying63 ty5 (.g rfl id) (.g rfl id) zf (fun _ => by first | omega | (rename_i hg; simp at hg; omega))) ?_
        refine al1 9 rfl ((callgo rfl rfl en52 (.cons (.g rfl id) (.cons (.g rfl id) .nil)) (fun hg w I => head_ok _ _ w (by omega)) (fun v3 => ?_)))
        refine hdn (al1 13 rfl ((callg rfl rfl en51 (.cons (.g rfl id) (.cons (.g rfl id) .nil)) (fun hg w I => equal_ok _ _ _ _ w (isSl_gd zm hg w I) (IsSl.sub (hb.keep0 I.keeps) (by omega) (by omega))) ?_)))
        refine hdn (tkg 14 rfl rfl rfl (Ev.not (.g rfl id)) ?_)
        refine tk 15 rfl (Ev.pkA (.t rfl) rfl) ?_
        refine tk 16 rfl (Ev.assign (.t rfl)) ?_
        refine ovr (pN ?_)
        first | refine condD rfl (fun h3 => ?_) (fun h3 => ?_) | refine cond rfl (fun h3 => ?_) (fun h3 => ?_)
        · try simp only [Gx.nb] at h3
          have h3 : ((frontB b).1.src.v6 = false ∧ headB (frontB b).1 ((frontB b).2.1 - frontN (frontB b).1) ≠ b.take (frontN (frontB b).1).toNat) := h3
          refine sg (co (Ev.buildS (fs := _) (places := [(0, 17), (17, 17), (34, 1), (35, 1), (36, 1), (37, 1), (38, 1), (39, 1), (40, 1), (41, 1), (42, 1)]) z93 rfl Tryz.underlying93 zk .nil Fills.nil) ?_)
          refine cons (stv ty93 (Lens.id _) (.t rfl) (.t rfl) ?_)
          refine co (Ev.assign (.c (v := I 0) rfl)) ?_
          refine co (Ev.assign (.c (v := I 162) rfl)) ?_
          refine nP (ret (bR (pR (done rfl (.cell rfl (fun w I => run_loadVar_pts ty93 (ptsVar zm (Lens.id _) w I)) (.tmp rfl (.tmp rfl .nil))) (fun w I => ?_)))))
          exact retR_bad (by unfold readE; rw [if_neg h0, if_neg h1, if_neg h2, if_pos h3]) (by decide) w I
        · try simp only [Gx.nb] at h3
          have h3 : ¬ ((frontB b).1.src.v6 = false ∧ headB (frontB b).1 ((frontB b).2.1 - frontN (frontB b).1) ≠ b.take (frontN (frontB b).1).toNat) := by
            rintro ⟨k1, k2⟩
            rcases h3 with k | k
            · have k0 : (frontB b).1.src.v6 = true := k
              rw [k1] at k0
              cases k0
            · exact k2 k
          have e3 : readE b = midE (frontB b).1 (restOf b) := by unfold readE; rw [if_neg h0, if_neg h1, if_neg h2, if_neg h3]
          refine skip (bN (pN (seq (seq (drawS 5 rfl zr zk ?_)))))
          refine tk 1 rfl (Ev.move (.t rfl)) ?_
          refine tk 2 rfl (Ev.move (.t rfl)) ?_
          refine tk 3 rfl (Ev.move (.t rfl)) ?_
          refine tk 4 rfl (Ev.slice Tryz.underlying63 ty5 (.t rfl) (.t rfl) (.t rfl) zf (fun _ => zo)) ?_
          refine al1 0 rfl ((opv (Ev.ldv ty93 (.t rfl) (Lens.id _)) ?_))
          refine hdn (al1 5 rfl ((calln (X := OV) (fun o : OV => ((restOf b).length : Int) < midN (frontB b).1.proto → o = (frontB b).1.data) (fun o => .tuple #[eHeader.val (wD (if ((restOf b).length : Int) < midN (frontB b).1.proto then (frontB b).1 else midH (frontB b).1 (restOf b)) o), I (midE (frontB b).1 (restOf b))]) (fun o => if ((restOf b).length : Int) < midN (frontB b).1.proto then [] else [OwnS o.v u8E (midD (frontB b).1 (restOf b)) 5]) en53 (.cons (.t rfl) (.cons (.t rfl) .nil)) (fun w I => middled_ok (frontB b).1 _ (restOf b) w (IsSl.sub (hb.keep0 I.keeps) (by omega) (by omega)) (by unfold restOf; simp; omega)) (fun x5 hx5 => ?_))))
          refine hdn (tk 6 rfl (Ev.move (.t rfl)) ?_)
          refine tk 7 rfl (Ev.extract (.t rfl) rfl) ?_
          refine tk 8 rfl (Ev.extract (.t rfl) rfl) ?_
          refine al1 9 rfl ((stv ty93 (Lens.id _) (.t rfl) (.t rfl) ?_))
          refine hdn (tk 10 rfl (Ev.assign (.t rfl)) ?_)
          refine ovr (pN (sg (mv rfl (co (Ev.neq_i (.t rfl) (.c (v := I 0) rfl)) ?_))))
          refine nP ?_
          first | refine condD rfl (fun h4 => ?_) (fun h4 => ?_) | refine cond rfl (fun h4 => ?_) (fun h4 => ?_)
          · try simp only [Gx.nb] at h4
            refine sg (co (Ev.buildS (fs := _) (places := [(0, 17), (17, 17), (34, 1), (35, 1), (36, 1), (37, 1), (38, 1), (39, 1), (40, 1), (41, 1), (42, 1)]) z93 rfl Tryz.underlying93 zk .nil Fills.nil) ?_)
            refine mv rfl (cons (stv ty93 (Lens.id _) (.t rfl) (.t rfl) ?_))
            refine co (Ev.assign (.c (v := I 0) rfl)) ?_
            refine asn rfl (nP (ret (pR (done rfl (.cell rfl (fun w I => run_loadVar_pts ty93 (ptsVar zm (Lens.id _) w I)) (.tmp rfl (.tmp rfl .nil))) (fun w I => ?_)))))
            exact retR_bad e3 h4 w I
          · try simp only [Gx.nb] at h4
            refine skip (pN (sg (co (Ev.ldv ty93 (.t rfl) (Lens.id _)) ?_)))
            refine mv rfl (cons (stv ty93 (Lens.id _) (.t rfl) (.t rfl) ?_))
            refine asn rfl (co (Ev.assign (.c (v := I 0) rfl)) ?_)
            refine nP (ret (done rfl (.cell rfl (fun w I => run_loadVar_pts ty93 (ptsVar zm (Lens.id _) w I)) (.tmp rfl (.tmp rfl .nil))) (fun w I => ?_)))
            have e : readE b = 0 := by rw [e3]; exact h4
            exact retN x5 (fun hn => absurd e hn) (by unfold readH readN; rw [if_pos e, if_pos e, e]; show tupV [eHeader.val (wD (if ((restOf b).length : Int) < midN (frontB b).1.proto then (frontB b).1 else midH (frontB b).1 (restOf b)) x5), Go.Gx.I _, Go.Gx.I 0] = _; rw [if_neg (midE_len _ _ h4)]; rfl) (by rw [if_pos e]; show (List.Sublist _ ((if _ then _ else _) ++ _)); rw [if_neg (midE_len _ _ h4)]; exact List.cons_sublist_cons.2 (List.nil_sublist _)) w I
end Go.Proofs.YtakmoeladkajdaaGreat.Oc
namespace Go.Proofs.YtakmoeladkajdaaGreat.Oc
open Go Go.Gx Go.Proofs.YtakmoeladkajdaaGreat.Tri
structure SKey where
  src : SAddr
  dst : SAddr
  proto : UInt8
  srcPort : UInt16
  dstPort : UInt16
def SKey.to : (SAddr × (SAddr × (UInt8 × (UInt16 × UInt16)))) → SKey := fun x => ⟨x.1, x.2.1, x.2.2.1, x.2.2.2.1, x.2.2.2.2⟩
def SKey.of : SKey → (SAddr × (SAddr × (UInt8 × (UInt16 × UInt16)))) := fun x => (x.src, x.dst, x.proto, x.srcPort, x.dstPort)
def eKey : Enc SKey := isoE (prodE eAddr (prodE eAddr (prodE u8E (prodE u16E u16E)))) SKey.to SKey.of
def SKey.l_src : Lens eKey eAddr 0 := lIso _ SKey.to SKey.of (fun _ => rfl) (lFst eAddr (prodE eAddr (prodE u8E (prodE u16E u16E))))
@[simp] theorem SKey.get_src (x : SKey) : SKey.l_src.get x = x.src := rfl
@[simp] theorem SKey.set_src (x : SKey) (y : SAddr) : SKey.l_src.set x y = { x with src := y } := rfl
def SKey.l_dst : Lens eKey eAddr 17 := lIso _ SKey.to SKey.of (fun _ => rfl) (Lens.comp (lSnd eAddr (prodE eAddr (prodE u8E (prodE u16E u16E)))) (lFst eAddr (prodE u8E (prodE u16E u16E))))
@[simp] theorem SKey.get_dst (x : SKey) : SKey.l_dst.get x = x.dst := rfl
@[simp] theorem SKey.set_dst (x : SKey) (y : SAddr) : SKey.l_dst.set x y = { x with dst := y } := rfl
def SKey.l_proto : Lens eKey u8E 34 := lIso _ SKey.to SKey.of (fun _ => rfl) (Lens.comp (lSnd eAddr (prodE eAddr (prodE u8E (prodE u16E u16E)))) (Lens.comp (lSnd eAddr (prodE u8E (prodE u16E u16E))) (lFst u8E (prodE u16E u16E))))
@[simp] theorem SKey.get_proto (x : SKey) : SKey.l_proto.get x = x.proto := rfl
@[simp] theorem SKey.set_proto (x : SKey) (y : UInt8) : SKey.l_proto.set x y = { x with proto := y } := rfl
def SKey.l_srcPort : Lens eKey u16E 35 := lIso _ SKey.to SKey.of (fun _ => rfl) (Lens.comp (lSnd eAddr (prodE eAddr (prodE u8E (prodE u16E u16E)))) (Lens.comp (lSnd eAddr (prodE u8E (prodE u16E u16E))) (Lens.comp (lSnd u8E (prodE u16E u16E)) (lFst u16E u16E))))
@[simp] theorem SKey.get_srcPort (x : SKey) : SKey.l_srcPort.get x = x.srcPort := rfl
@[simp] theorem SKey.set_srcPort (x : SKey) (y : UInt16) : SKey.l_srcPort.set x y = { x with srcPort := y } := rfl
def SKey.l_dstPort : Lens eKey u16E 36 := lIso _ SKey.to SKey.of (fun _ => rfl) (Lens.comp (lSnd eAddr (prodE eAddr (prodE u8E (prodE u16E u16E)))) (Lens.comp (lSnd eAddr (prodE u8E (prodE u16E u16E))) (Lens.comp (lSnd u8E (prodE u16E u16E)) (Lens.comp (lSnd u16E u16E) (Lens.id u16E)))))
@[simp] theorem SKey.get_dstPort (x : SKey) : SKey.l_dstPort.get x = x.dstPort := rfl
@[simp] theorem SKey.set_dstPort (x : SKey) (y : UInt16) : SKey.l_dstPort.set x y = { x with dstPort := y } := rfl
def backK (k : SKey) : SKey := { src := k.dst, dst := k.src, proto := k.proto, srcPort := k.dstPort, dstPort := k.srcPort }
def ofK (h : SHeader) : SKey :=
  if h.proto = 6 ∨ h.proto = 17 then { src := h.src, dst := h.dst, proto := h.proto, srcPort := h.srcPort, dstPort := h.dstPort }
  else { src := h.src, dst := h.dst, proto := h.proto, srcPort := 0, dstPort := 0 }
theorem z48 : (Tryz.prog.info? 48).bind (·.zero) = some (eKey.val eKey.zero) := by kernel_rfl
theorem ty48 : TyOK Tryz.prog 48 eKey := TyOK.mk' zk zk
theorem of_ok (h : SHeader) (w : World) : Calls Tryz.prog 30 #[eHeader.val h] w (RetV w (eKey.val (ofK h))) := by
  refine en0 26 Tryz.func30 ?_
  refine sg (cons (box (E := eHeader) (.t rfl) (fun b1 => ?_)))
  refine cons (alloc z48 (fun b2 => ?_))
  refine nP (sg (co (fA 0 (.t rfl)) ?_))
  refine co (Ev.ldx h.src ty45 (.t rfl) SHeader.l_src) ?_
  refine co (fA 17 (.t rfl)) ?_
  refine co (Ev.ldx h.dst ty45 (.t rfl) SHeader.l_dst) ?_
  refine co (fA 34 (.t rfl)) ?_
  refine co (Ev.ldx h.proto ty5 (.t rfl) SHeader.l_proto) ?_
  refine co (Ev.buildS (fs := _) (places := [(0, 17), (17, 17), (34, 1), (35, 1), (36, 1)]) z48 rfl Tryz.underlying48 zk (.cons (.t rfl) (.cons (.t rfl) (.cons (.t rfl) .nil))) (Fills.cons SKey.l_src rfl (Fills.cons SKey.l_dst rfl (Fills.cons SKey.l_proto rfl Fills.nil)))) ?_
  refine cons (alloc z48 (fun b3 => ?_))
  refine cons (stv ty48 (Lens.id _) (.t rfl) (.t rfl) ?_)
  refine nP (seq (sg (co (fA 34 (.t rfl)) ?_)))
  refine co (Ev.ldx h.proto ty5 (.t rfl) SHeader.l_proto) ?_
  refine co (Ev.eql_u8 (.t rfl) (.c (v := U8 6) rfl)) ?_
  refine mv rfl (cg rfl rfl (fA 34 (.t rfl)) ?_)
  refine cg rfl rfl (Ev.ldx h.proto ty5 (.g rfl id) SHeader.l_proto) ?_
  refine cg rfl rfl (Ev.eql_u8 (.g rfl id) (.c (v := U8 17) rfl)) ?_
  refine co (Ev.pkO (.t rfl) rfl) ?_
  refine nP ?_
  first | refine condD rfl (fun h0 => ?_) (fun h0 => ?_) | refine cond rfl (fun h0 => ?_) (fun h0 => ?_)
  · try simp only [Gx.nb] at h0
    refine drawS 3 rfl zr zk ?_
    refine tk 0 rfl (fA 35 (.t rfl)) ?_
    refine tk 1 rfl (Ev.ldx h.srcPort ty46 (.t rfl) SHeader.l_srcPort) ?_
    refine tk 2 rfl (fA 36 (.t rfl)) ?_
    refine tk 3 rfl (Ev.ldx h.dstPort ty46 (.t rfl) SHeader.l_dstPort) ?_
    refine tk 4 rfl (fA 35 (.t rfl)) ?_
    refine al1 5 rfl ((stv ty46 SKey.l_srcPort (.t rfl) (.t rfl) ?_))
    refine hdn (tk 6 rfl (fA 36 (.t rfl)) ?_)
    refine al1 7 rfl ((stv ty46 SKey.l_dstPort (.t rfl) (.t rfl) ?_))
    refine hdn (ovr (pN (sg (co (Ev.ldv ty48 (.t rfl) (Lens.id _)) ?_))))
    refine cons (stv ty48 (Lens.id _) (.t rfl) (.t rfl) ?_)
    refine nP (ret (done rfl (.cell rfl (fun w I => run_loadVar_pts ty48 (ptsVar zm (Lens.id _) w I)) .nil) (retE ?_)))
    unfold ofK
    first | (rw [if_pos h0]; rfl) | (rw [if_neg (by rw [not_or]; exact h0)]; rfl)
  · try simp only [Gx.nb] at h0
    refine skip (pN (sg (co (Ev.ldv ty48 (.t rfl) (Lens.id _)) ?_)))
    refine cons (stv ty48 (Lens.id _) (.t rfl) (.t rfl) ?_)
    refine nP (ret (done rfl (.cell rfl (fun w I => run_loadVar_pts ty48 (ptsVar zm (Lens.id _) w I)) .nil) (retE ?_)))
    unfold ofK
    first | (rw [if_pos h0]; rfl) | (rw [if_neg (by rw [not_or]; exact h0)]; rfl)
end Go.Proofs.YtakmoeladkajdaaGreat.Oc
namespace Go.Proofs.YtakmoeladkajdaaGreat.Oc
open Go Go.Gx Go.Proofs.YtakmoeladkajdaaGreat.Tri
def faddrB (a : SAddr) : List UInt8 := (if a.v6 = true then 1 else 0) :: a.b.toList
def keyB (k : SKey) : List UInt8 := faddrB k.src ++ faddrB k.dst ++ [k.proto] ++ putB 2 k.srcPort.toUInt64 ++ putB 2 k.dstPort.toUInt64
theorem putB_one (v : UInt8) : putB 1 v.toUInt64 = [v] := by
  have e : (shr64 v.toUInt64 (8 * 0)).toUInt8 = v := by
    apply UInt8.toNat_inj.1
    have h := v.toNat_lt
    simp [toNat_shr64]
  show [(shr64 v.toUInt64 (8 * 0)).toUInt8] = [v]
  rw [e]
theorem addr_step (a : SAddr) (v : UInt8) (h : v = if a.v6 = true then 1 else 0) : putB 1 v.toUInt64 ++ (a.b.toList.take 16).drop 0 = faddrB a := by
  rw [putB_one, List.drop_zero, List.take_of_length_le (by simp), h]
  rfl
theorem take_flat {α : Type} (f : α → List UInt8) (l : List α) (i : Int) (h0 : 0 ≤ i) (h1 : i < l.length) (z : α) : (l.take (i + 1).toNat).flatMap f = (l.take i.toNat).flatMap f ++ f (l.getD i.toNat z) := by
  have e : (i + 1).toNat = i.toNat + 1 := by omega
  have h2 : i.toNat < l.length := by omega
  rw [e, List.take_succ_eq_append_getElem h2, List.flatMap_append]
  simp [List.getD, h2]
theorem z234 : (Tryz.prog.info? 234).bind (·.zero) = some ((arrE 2 eAddr).val (arrE 2 eAddr).zero) := by kernel_rfl
theorem en117 : Gx.Enters Tryz.prog 117 := Gx.Enters.mk' zk
theorem bytes_ok (k : SKey) (w : World) : Calls Tryz.prog 77 #[eKey.val k] w (RetO w u8E (keyB k) 5) := by
  refine en0 38 Tryz.func77 ?_
  refine sg (cons (box (E := eKey) (.t rfl) (fun b1 => ?_)))
  refine co (Ev.assign (.c (v := (Go.Value.slice none 0 0)) rfl)) ?_
  refine nP (sg (co (Ev.assign (.c (v := (Go.Value.slice none 0 0)) rfl)) ?_))
  refine nP (seq (sg (co (fA 0 (.t rfl)) ?_)))
  refine co (Ev.ldx k.src ty45 (.t rfl) SKey.l_src) ?_
  refine co (fA 17 (.t rfl)) ?_
  refine co (Ev.ldx k.dst ty45 (.t rfl) SKey.l_dst) ?_
  refine co (Ev.buildA z234 Tryz.underlying234 ty45 (.cons (.t rfl) (.cons (.t rfl) .nil)) (Fills.cons (lArr eAddr 0 (by decide)) rfl (Fills.cons (lArr eAddr 1 (by decide)) rfl Fills.nil))) ?_
  refine co (Ev.move (.c (v := I 0) rfl)) ?_
  refine nP (block (takeNil u8E 5 ?_))
  refine lp (X := Int × OV × (List UInt8)) (fun x : Int × OV × (List UInt8) => (0 ≤ x.1 ∧ x.1 ≤ 2) ∧ (x.2.2 = ([k.src, k.dst].take x.1.toNat).flatMap faddrB) ∧ (x.2.2.length = 17 * x.1.toNat)) (fun x : Int × OV × (List UInt8) => [dz, (1, true, .pointer (some ⟨b1, 0, none⟩)), (3, true, x.2.1.v), (11, true, (arrE 2 eAddr).val #v[k.src, k.dst]), (12, true, I x.1)]) (fun x : Int × OV × (List UInt8) => [OwnS x.2.1.v u8E x.2.2 5, Var b1 eKey k 48]) (fun x : Int × OV × (List UInt8) => (2 - x.1).toNat) (0, nilSl, []) ⟨?_, ?_, ?_⟩ (fun x hx => ?_)
  · omega
  · rfl
  · rfl
  obtain ⟨i, o, xs⟩ := x
  obtain ⟨hi, hx, hl⟩ : (0 ≤ i ∧ i ≤ 2) ∧ (xs = ([k.src, k.dst].take i.toNat).flatMap faddrB) ∧ (xs.length = 17 * i.toNat) := hx
  show Sat _ _ [dz, (1, true, .pointer (some ⟨b1, 0, none⟩)), (3, true, o.v), (11, true, (arrE 2 eAddr).val #v[k.src, k.dst]), (12, true, I i)] [OwnS o.v u8E xs 5, Var b1 eKey k 48]
  refine sg (co (Ev.lss_i (.t rfl) (.c (v := I 2) rfl)) ?_)
  refine nP (seq ?_)
  first | refine condD rfl (fun hlt => ?_) (fun hge => ?_) | refine cond rfl (fun hlt => ?_) (fun hge => ?_)
  · try simp only [Gx.nb] at hlt
    refine skip (pN (seq (block (sg ?_))))
    have hil : i.toNat < 2 := by omega
    refine co (Ev.indexA Tryz.underlying234 ty45 (.t rfl) (.t rfl) (fun _ => zo)) ?_
    refine cons (alloc z45 (fun b2 => ?_))
    refine cons (stv ty45 (Lens.id _) (.t rfl) (.t rfl) ?_)
    refine nP (sg (co (Ev.assign (.c (v := U8 0) rfl)) ?_))
    refine nP (seq (sg (co (fA 0 (.t rfl)) ?_)))
    refine co (Ev.ldv ty4 (.t rfl) SAddr.l_v6) ?_
    refine nP ?_
    first | refine condD rfl (fun ha => ?_) (fun ha => ?_) | refine cond rfl (fun ha => ?_) (fun ha => ?_)
    · try simp only [Gx.nb] at ha
      refine region (mv rfl (co (Ev.add_u8 (.t rfl) (.c (v := U8 1) rfl)) ?_))
      refine asn rfl (nP (draw' zk ?_))
      refine tk 0 rfl (Ev.move (.t rfl)) ?_
      refine tk 1 rfl (Ev.move (.t rfl)) ?_
      refine tk 3 rfl (fA 1 (.t rfl)) ?_
      refine tk 4 rfl (Ev.sliceArr (l := 0) (h := 16) Tryz.underlying43 ty5 (.t rfl) rfl rfl (fun _ => by decide)) ?_
      refine al1 2 rfl ((callo en117 (.cons (.t rfl) (.cons (.t rfl) .nil)) (fun w I => put_uint8_ok _ _ _ w (by first | exact io w I | exact IsSl.keep0 (by assumption) I.keeps) (by first | assumption | omega | (simp [putB_length]; done) | (simp [putB_length]; omega))) (fun v3 => ?_)))
      refine hdn (al1 5 rfl ((app (E := u8E) Tryz.underlying63 ty5 zb5 zs5 (.t rfl) (.t rfl) (fun v4 => ?_) (hsrc := (fun w I => isSl_arr (ptsVar (by repeat first | exact mH | apply mT | apply mA) SAddr.l_b w I) (by decide) (by decide) (by decide))) (hby := ⟨by (show _ ≤ 9223372036854775807); simp [putB_length]; omega, by simp [putB_length]; omega⟩))))
      refine hdn (tk 6 rfl (Ev.assign (.t rfl)) ?_)
      refine ovr (bN (pN (region (co (Ev.add_i (.t rfl) (.c (v := I 1) rfl) (fun _ => zo)) ?_))))
      refine mv rfl (nP (nx (X := Int × OV × (List UInt8)) (i + 1, _, _) ⟨?_, ?_, ?_⟩ ?_))
      · try dsimp only
        omega
      · try dsimp only
        rw [List.append_assoc]
        refine Eq.trans (congrArg (fun l => xs ++ l) (addr_step ([k.src, k.dst].getD i.toNat eAddr.zero) _ (by first | exact (if_pos ha).symm | exact (if_neg (fun h => Bool.false_ne_true (ha.symm.trans h))).symm))) ?_
        rw [hx, take_flat faddrB _ i hi.1 (by simp; omega) eAddr.zero]
      · try dsimp only
        simp [putB_length, hl]; omega
      · try dsimp only
        omega
    · try simp only [Gx.nb] at ha
      refine skip (pN (draw' zk ?_))
      refine tk 0 rfl (Ev.move (.t rfl)) ?_
      refine tk 1 rfl (Ev.move (.t rfl)) ?_
      refine tk 3 rfl (fA 1 (.t rfl)) ?_
      refine tk 4 rfl (Ev.sliceArr (l := 0) (h := 16) Tryz.underlying43 ty5 (.t rfl) rfl rfl (fun _ => by decide)) ?_
      refine al1 2 rfl ((callo en117 (.cons (.t rfl) (.cons (.t rfl) .nil)) (fun w I => put_uint8_ok _ _ _ w (by first | exact io w I | exact IsSl.keep0 (by assumption) I.keeps) (by first | assumption | omega | (simp [putB_length]; done) | (simp [putB_length]; omega))) (fun v5 => ?_)))
      refine hdn (al1 5 rfl ((app (E := u8E) Tryz.underlying63 ty5 zb5 zs5 (.t rfl) (.t rfl) (fun v6 => ?_) (hsrc := (fun w I => isSl_arr (ptsVar (by repeat first | exact mH | apply mT | apply mA) SAddr.l_b w I) (by decide) (by decide) (by decide))) (hby := ⟨by (show _ ≤ 9223372036854775807); simp [putB_length]; omega, by simp [putB_length]; omega⟩))))
      refine hdn (tk 6 rfl (Ev.assign (.t rfl)) ?_)
      refine ovr (bN (pN (region (co (Ev.add_i (.t rfl) (.c (v := I 1) rfl) (fun _ => zo)) ?_))))
      refine mv rfl (nP (nx (X := Int × OV × (List UInt8)) (i + 1, _, _) ⟨?_, ?_, ?_⟩ ?_))
      · try dsimp only
        omega
      · try dsimp only
        rw [List.append_assoc]
        refine Eq.trans (congrArg (fun l => xs ++ l) (addr_step ([k.src, k.dst].getD i.toNat eAddr.zero) _ (by first | exact (if_pos ha).symm | exact (if_neg (fun h => Bool.false_ne_true (ha.symm.trans h))).symm))) ?_
        rw [hx, take_flat faddrB _ i hi.1 (by simp; omega) eAddr.zero]
      · try dsimp only
        simp [putB_length, hl]; omega
      · try dsimp only
        omega
  · try simp only [Gx.nb] at hge
    refine exit (pX (pX (bX (pN (sg (mv rfl (co (fA 34 (.t rfl)) ?_)))))))
    refine co (Ev.ldx k.proto ty5 (.t rfl) SKey.l_proto) ?_
    refine cons (callo en117 (.cons (.t rfl) (.cons (.t rfl) .nil)) (fun w I => put_uint8_ok _ _ _ w (by first | exact io w I | exact IsSl.keep0 (by assumption) I.keeps) (by first | assumption | omega | (simp [putB_length]; done) | (simp [putB_length]; omega))) (fun v7 => ?_))
    refine asn rfl (nP (sg (mv rfl (co (fA 35 (.t rfl)) ?_))))
    refine co (Ev.ldx k.srcPort ty46 (.t rfl) SKey.l_srcPort) ?_
    refine cons (callo en82 (.cons (.t rfl) (.cons (.t rfl) .nil)) (fun w I => put_uint16_ok _ _ _ w (by first | exact io w I | exact IsSl.keep0 (by assumption) I.keeps) (by first | assumption | omega | (simp [putB_length]; done) | (simp [putB_length]; omega))) (fun v8 => ?_))
    refine asn rfl (nP (sg (mv rfl (co (fA 36 (.t rfl)) ?_))))
    refine co (Ev.ldx k.dstPort ty46 (.t rfl) SKey.l_dstPort) ?_
    refine cons (callo en82 (.cons (.t rfl) (.cons (.t rfl) .nil)) (fun w I => put_uint16_ok _ _ _ w (by first | exact io w I | exact IsSl.keep0 (by assumption) I.keeps) (by first | assumption | omega | (simp [putB_length]; done) | (simp [putB_length]; omega))) (fun v9 => ?_))
    refine asn rfl (nP (ret (done rfl (.tmp rfl .nil) (retOE zm ?_))))
    have e : i.toNat = 2 := by omega
    rw [e] at hx
    rw [hx, putB_one]; simp [keyB]
end Go.Proofs.YtakmoeladkajdaaGreat.Oc
namespace Go.Proofs.YtakmoeladkajdaaGreat.Oc
open Go Go.Gx Go.Proofs.YtakmoeladkajdaaGreat.Tri
theorem raddr_ok (u : Value) (xs0 : List UInt8) (a : SAddr) (w : World) (ho : w.ownsRow 0 5 u8E.size u xs0.length (u8E.row xs0)) (hl : xs0.length ≤ 1000) :
    Calls Tryz.prog 78 #[u, eAddr.val a] w (Gx.RetM w u u8E (xs0 ++ faddrB a) 5) := by
  refine enter (fun b => u.ownBlock = some b) 25 [OwnS u u8E xs0 5] Tryz.func78 rfl rfl (Nat.le_of_ble_eq_true rfl) (startO ho) ?_
  refine sg (cons (box (E := eAddr) (.t rfl) (fun b1 => ?_)))
  refine co (Ev.assign (.c (v := (Go.Value.slice none 0 0)) rfl)) ?_
  refine nP (sg (co (Ev.assign (.c (v := U8 0) rfl)) ?_))
  refine nP (cut (X := UInt8) (fun x : UInt8 => (x = if a.v6 = true then 1 else 0)) (fun x : UInt8 => [dz, (0, true, u), (3, true, .pointer (some ⟨b1, 0, none⟩)), (5, true, U8 x)]) (fun x : UInt8 => [Var b1 eAddr a 45, OwnS u u8E xs0 5]) ?_ (fun x hx => ?_))
  · refine sg (co (fA 0 (.t rfl)) ?_)
    refine co (Ev.ldx a.v6 ty4 (.t rfl) SAddr.l_v6) ?_
    refine nP ?_
    first | refine condD rfl (fun h0 => ?_) (fun h0 => ?_) | refine cond rfl (fun h0 => ?_) (fun h0 => ?_)
    · try simp only [Gx.nb] at h0
      refine region (co (Ev.assign (.c (v := U8 1) rfl)) ?_)
      refine nP (mt (X := UInt8) (_) ?_)
      · try dsimp only
        simp_all
    · try simp only [Gx.nb] at h0
      refine skip (pN (mt (X := UInt8) (_) ?_))
      · try dsimp only
        simp_all
  obtain ⟨z, rfl⟩ : ∃ y, y = x := ⟨x, rfl⟩
  have hz : z = if a.v6 = true then 1 else 0 := hx
  clear hx
  show Sat _ _ [dz, (0, true, u), (3, true, .pointer (some ⟨b1, 0, none⟩)), (5, true, U8 z)] [Var b1 eAddr a 45, OwnS u u8E xs0 5]
  refine sg (mv rfl (mv rfl (cons (buildSlice (E := u8E) Tryz.underlying63 ty5 z5 (.cons (.t rfl) .nil) rfl rfl (fun v2 => ?_)))))
  refine cons (app (E := u8E) Tryz.underlying63 ty5 zb5 zs5 (.t rfl) (.t rfl) (fun v3 => ?_) (hby := ⟨by (show _ ≤ 9223372036854775807); first | omega | (simp; done) | (simp; omega), by first | omega | (simp; done) | (simp; omega)⟩))
  refine asn rfl (nP (seq (sg (co (Ev.assign (.c (v := I 0) rfl)) ?_))))
  refine nP (block (lp (X := Int × OV × (List UInt8)) (fun x : Int × OV × (List UInt8) => (0 ≤ x.1 ∧ x.1 ≤ 16) ∧ (x.2.2 = xs0 ++ z :: a.b.toList.take x.1.toNat)) (fun x : Int × OV × (List UInt8) => [dz, (0, true, x.2.1.v), (3, true, .pointer (some ⟨b1, 0, none⟩)), (6, true, I x.1)]) (fun x : Int × OV × (List UInt8) => [Var b1 eAddr a 45, OwnS x.2.1.v u8E x.2.2 5]) (fun x : Int × OV × (List UInt8) => (16 - x.1).toNat) (0, _, _) ⟨?_, ?_⟩ (fun x hx => ?_) (hL := (by repeat first | exact List.Sublist.refl _ | apply List.Sublist.cons_cons | apply List.Sublist.cons))))
  · omega
  · rfl
  obtain ⟨i, o, xs⟩ := x
  obtain ⟨hi, hx⟩ : (0 ≤ i ∧ i ≤ 16) ∧ (xs = xs0 ++ z :: a.b.toList.take i.toNat) := hx
  show Sat _ _ [dz, (0, true, o.v), (3, true, .pointer (some ⟨b1, 0, none⟩)), (6, true, I i)] [Var b1 eAddr a 45, OwnS o.v u8E xs 5]
  have hxl : xs.length = xs0.length + 1 + i.toNat := by rw [hx]; simp; omega
  refine seq (sg (mv rfl (co (Ev.lss_i (.t rfl) (.c (v := I 16) rfl)) ?_)))
  refine nP ?_
  first | refine condD rfl (fun h1 => ?_) (fun h1 => ?_) | refine cond rfl (fun h1 => ?_) (fun h1 => ?_)
  · try simp only [Gx.nb] at h1
    refine skip (pN (seq (block (region (mv rfl (mv rfl (co (fA 1 (.t rfl)) ?_)))))))
    refine co (Ev.indexAddrA Tryz.underlying43 ty5 (.t rfl) (.t rfl) (fun _ => zo)) ?_
    refine co (Ev.ldv ty5 (.t rfl) (Lens.comp SAddr.l_b (lArr (n := 16) u8E _ (by omega)))) ?_
    refine cons (buildSlice (E := u8E) Tryz.underlying63 ty5 z5 (.cons (.t rfl) .nil) rfl rfl (fun v4 => ?_))
    refine cons (app (E := u8E) Tryz.underlying63 ty5 zb5 zs5 (.t rfl) (.t rfl) (fun v5 => ?_) (hby := ⟨by (show _ ≤ 9223372036854775807); first | omega | (simp; done) | (simp; omega), by first | omega | (simp; done) | (simp; omega)⟩))
    refine asn rfl (nil (bN (pN (region (mv rfl (co (Ev.add_i (.t rfl) (.c (v := I 1) rfl) (fun _ => zo)) ?_))))))
    refine asn rfl (nP (nx (X := Int × OV × (List UInt8)) (i + 1, _, _) ⟨?_, ?_⟩ ?_))
    · try dsimp only
      omega
    · try dsimp only
      rw [hx, take_snoc _ i hi.1 (by simp; omega) 0]; simp [show i.toNat < 16 by omega]
    · try dsimp only
      omega
  · try simp only [Gx.nb] at h1
    refine exit (pX (pX (bX (pN (sg (mv rfl (asn rfl (nP (ret (done rfl (.tmp rfl .nil) (retM zm ?_)))))))))))
    have e : i.toNat = 16 := by omega
    rw [e, List.take_of_length_le (by simp), hz] at hx
    rw [hx]; rfl
end Go.Proofs.YtakmoeladkajdaaGreat.Oc
namespace Go.Proofs.YtakmoeladkajdaaGreat.Oc
open Go Go.Gx Go.Proofs.YtakmoeladkajdaaGreat.Tri
theorem en77 : Gx.Enters Tryz.prog 77 := Gx.Enters.mk' zk
theorem en76 : Gx.Enters Tryz.prog 76 := Gx.Enters.mk' zk
theorem fhash_ok (k : SKey) (w : World) : Calls Tryz.prog 47 #[eKey.val k] w (RetV w (U64 (hashB 14695981039346656037 (keyB k)))) := by
  refine en0 7 Tryz.func47 ?_
  refine sg (cons (box (E := eKey) (.t rfl) (fun b1 => ?_)))
  refine co (Ev.assign (.c (v := U64 0) rfl)) ?_
  refine nP (sg (co (Ev.ldx k ty48 (.t rfl) (Lens.id _)) ?_))
  refine cons (callo en77 (.cons (.t rfl) .nil) (fun w I => bytes_ok _ w) (fun v2 => ?_))
  refine cons (buildSlice (E := (ovE nilSl)) Tryz.underlying233 ty63 z63 (.cons (.t rfl) .nil) rfl rfl (fun v3 => ?_))
  refine cons (callv en76 (.cons (.t rfl) .nil) (fun w I => hash_ok _ [keyB k] w (IsSS.mk' (io w I) (.cons (io w I) .nil))) ?_)
  refine asn rfl (nP (ret (done rfl (.tmp rfl .nil) (retE ?_))))
  simp [tupV]
theorem shr20 (h : UInt64) : h / 1048576 = shr64 h 20 := by
  apply UInt64.toNat_inj.1
  rw [UInt64.toNat_div, toNat_shr64]
  rfl
def hashK (k : SKey) : UInt64 := hashB 14695981039346656037 (keyB k)
def laneV (k : SKey) (n : Int) : Int × Int := if n < 1 ∨ n > 16 then (0, 2) else (((hashK k).toNat % n.toNat : Nat), 0)
def partV (k : SKey) (f : UInt64) : UInt64 × Int := if f = 0 then (0, 2) else (shr64 (hashK k) 20 % f, 0)
theorem en47 : Gx.Enters Tryz.prog 47 := Gx.Enters.mk' zk
theorem part_ok (k : SKey) (f : UInt64) (w : World) : Calls Tryz.prog 26 #[eKey.val k, U64 f] w (RetV w (.tuple #[U64 (partV k f).1, I (partV k f).2])) := by
  refine en0 13 Tryz.func26 ?_
  refine sg (cons (box (E := eKey) (.t rfl) (fun b1 => ?_)))
  refine co (Ev.assign (.c (v := U64 0) rfl)) ?_
  refine co (Ev.assign (.c (v := I 0) rfl)) ?_
  refine nP (seq (sg (mv rfl (co (Ev.eql_u64 (.t rfl) (.c (v := U64 0) rfl)) ?_))))
  refine nP ?_
  first | refine condD rfl (fun h0 => ?_) (fun h0 => ?_) | refine cond rfl (fun h0 => ?_) (fun h0 => ?_)
  · try simp only [Gx.nb] at h0
    refine sg (co (Ev.assign (.c (v := U64 0) rfl)) ?_)
    refine co (Ev.assign (.c (v := I 2) rfl)) ?_
    refine nP (ret (pR (done rfl (.tmp rfl (.tmp rfl .nil)) (retE ?_))))
    simp [partV, h0, shr20, hashK]
    try rfl
  · try simp only [Gx.nb] at h0
    refine skip (pN (sg (co (Ev.ldx k ty48 (.t rfl) (Lens.id _)) ?_)))
    refine cons (callv en47 (.cons (.t rfl) .nil) (fun w I => fhash_ok _ w) ?_)
    refine co (Ev.shr_u64 (.t rfl) (.c rfl) (fun _ => by decide)) ?_
    refine mv rfl (co (Ev.rem_u64 (.t rfl) (.t rfl) (fun _ => h0)) ?_)
    refine asn rfl (co (Ev.assign (.c (v := I 0) rfl)) ?_)
    refine nP (ret (done rfl (.tmp rfl (.tmp rfl .nil)) (retE ?_)))
    simp [partV, h0, shr20, hashK]
    try rfl
end Go.Proofs.YtakmoeladkajdaaGreat.Oc
namespace Go.Proofs.YtakmoeladkajdaaGreat
open Go Go.Gx Go.Proofs.YtakmoeladkajdaaGreat.Tri Go.Proofs.YtakmoeladkajdaaGreat.Oc
theorem cell_of_pts {w : World} {b o : Nat} {n : UInt64} (h : PtsTo u64E w b o n) : w.cell? ⟨b, o, none⟩ = some (.int .u64 (n.toNat : Int)) := by
  have := h 0 (U64 n) rfl
  simpa [U64] using this
theorem casV {α : Type} {P : Program} {K : Ctx} {F : Fr} {L L' : List Res} {Q : Exit → Act → World → Prop} {N : Act → World → Prop} {ops : Array Oper} {ty : TypeId} {pos : String} {af : Array Edge} {d : Nat}
    {E : Enc α} {b o : Nat} {xv : α} {n m : UInt64} {T : TypeId} {f : FuncId} {fn : Func} {args : List Operand} {ats : Array TypeId}
    (hf : P.funcs[f]? = some fn) (hname : (fn.name == "runtime.NumGoroutine") = false) (hb : fn.body.isNone = true) (hn : Extern.findNext fn = none) (he : Extern.find fn = some (Extern.Atomic.casT (.int .u64)))
    (l : Lens E u64E o) (hargs : Opds F true args [.pointer (some ⟨b, o, none⟩), U64 n, U64 m]) (hx : l.get xv = n)
    (hu : Upd L (Var b E xv T) (Var b E (l.set xv m) T) L') (next : Sat K N ((d, true, .bool true) :: F) L') (hd : Nat.blt d K.n = true := by rfl) :
    Sat K (opThen P ops Q ⟨some d, .call { callee := .value (.func f), args := args.toArray, argTypes := ats }, ty, pos, af, none⟩ N) F L := fun a w G => by
  refine opThen_plain rfl ?_
  unfold Oper.wp
  have hbk : w.heap[b]? = some (.cells (E.cells xv).toArray T (0, 0)) := (G.inv.own _ hu.mem).1
  have hp : PtsTo u64E w b o n := by
    rw [← hx]
    exact ptsVar hu.mem l w G.inv
  have hc := cell_of_pts hp
  have hz : w.frozen? ⟨b, o, none⟩ = false := by
    simp [World.frozen?, hbk]
  have h1 := hargs.eval rfl G.fo
  have hfit := l.fits
  have hrow : w.setCell ⟨b, o, none⟩ (.int .u64 (m.toNat : Int)) = w.setRow b (E.cells (l.set xv m)).toArray := by
    rw [setCell_eq_setRow w b o _ _ _ _ hbk, l.hset]
    congr 1
    have hlt : o < (E.cells xv).length := by
      rw [E.len]
      have : u64E.size = 1 := rfl
      omega
    show (E.cells xv).toArray.setIfInBounds o (U64 m) = _
    rw [List.setIfInBounds_toArray, List.set_eq_take_append_cons_drop, if_pos hlt]
    have e : (E.cells xv).take o ++ u64E.cells m ++ (E.cells xv).drop (o + u64E.size) = (E.cells xv).take o ++ U64 m :: (E.cells xv).drop (o + 1) := by
      rw [List.append_assoc]
      rfl
    rw [e]
  have hr := run_call_cas_hit (P := P) hf hname hb hn .u64 he (x := (n.toNat : Int)) (y := (m.toNat : Int)) hc hz
  have hex : (execOp a.eval ⟨some d, .call { callee := .value (.func f), args := args.toArray, argTypes := ats }, ty, pos, af, none⟩).run P w = .ok (.value (.bool true)) (w.setRow b (E.cells (l.set xv m)).toArray) := by
    rw [← hrow]
    simp [execOp, resolve, Deferred.ofValue, invoke, Act.eval, h1]
    exact hr
  rw [hex]
  have hlt : b < w.heap.size := (Array.getElem?_eq_some_iff.1 hbk).1
  have hw := G.inv.upd hu (setRow_keeps _ _ _) (setRow_heap w b _ _ _ _ hbk) (by
    intro k hk
    have : k = b := hk
    subst this
    exact ⟨.inl rfl, by simpa using hlt⟩)
  exact next _ _ (G.put d true (.bool true) (.bool true) (by simpa [Nat.blt_eq] using hd) rfl hw)
theorem atLoad {P : Program} {K : Ctx} {F : Fr} {L : List Res} {g : Bool} {ty : TypeId} {b o : Nat} {n : UInt64} {f : FuncId} {fn : Func} {args : List Operand} {ats : Array TypeId}
    (hf : P.funcs[f]? = some fn) (hname : (fn.name == "runtime.NumGoroutine") = false) (hb : fn.body.isNone = true) (hn : Extern.findNext fn = none) (he : Extern.find fn = some (Extern.Atomic.loadT (.int .u64)))
    (hargs : Opds F g args [.pointer (some ⟨b, o, none⟩)]) (h : ∀ w, WInv K L w → PtsTo u64E w b o n) : Ev P K F L g (.call { callee := .value (.func f), args := args.toArray, argTypes := ats }) ty (U64 n) :=
  Ev.ext hf hname hb hn he hargs (fun w hw => by
    have hc := cell_of_pts (h w hw)
    change Sem.run P (do Extern.Atomic.read (.int .u64) (← asAddr (.pointer (some ⟨b, o, none⟩)))) w = _
    simp [Extern.Atomic.read, asAddr, hc, Result.andThen, U64])
structure SAtomicNoCopy where
def SAtomicNoCopy.to : Unit → SAtomicNoCopy := fun _ => ⟨⟩
def SAtomicNoCopy.of : SAtomicNoCopy → Unit := fun _ => ()
def eAtomicNoCopy : Enc SAtomicNoCopy := isoE unitE SAtomicNoCopy.to SAtomicNoCopy.of
structure SAtomicUint64 where
  blank : SAtomicNoCopy
  blank2 : SAtomicNoCopy
  v : UInt64
def SAtomicUint64.to : (SAtomicNoCopy × (SAtomicNoCopy × UInt64)) → SAtomicUint64 := fun x => ⟨x.1, x.2.1, x.2.2⟩
def SAtomicUint64.of : SAtomicUint64 → (SAtomicNoCopy × (SAtomicNoCopy × UInt64)) := fun x => (x.blank, x.blank2, x.v)
def eAtomicUint64 : Enc SAtomicUint64 := isoE (prodE eAtomicNoCopy (prodE eAtomicNoCopy u64E)) SAtomicUint64.to SAtomicUint64.of
def SAtomicUint64.l_blank : Lens eAtomicUint64 eAtomicNoCopy 0 := lIso _ SAtomicUint64.to SAtomicUint64.of (fun _ => rfl) (lFst eAtomicNoCopy (prodE eAtomicNoCopy u64E))
@[simp] theorem SAtomicUint64.get_blank (x : SAtomicUint64) : SAtomicUint64.l_blank.get x = x.blank := rfl
@[simp] theorem SAtomicUint64.set_blank (x : SAtomicUint64) (y : SAtomicNoCopy) : SAtomicUint64.l_blank.set x y = { x with blank := y } := rfl
def SAtomicUint64.l_blank2 : Lens eAtomicUint64 eAtomicNoCopy 0 := lIso _ SAtomicUint64.to SAtomicUint64.of (fun _ => rfl) (Lens.comp (lSnd eAtomicNoCopy (prodE eAtomicNoCopy u64E)) (lFst eAtomicNoCopy u64E))
@[simp] theorem SAtomicUint64.get_blank2 (x : SAtomicUint64) : SAtomicUint64.l_blank2.get x = x.blank2 := rfl
@[simp] theorem SAtomicUint64.set_blank2 (x : SAtomicUint64) (y : SAtomicNoCopy) : SAtomicUint64.l_blank2.set x y = { x with blank2 := y } := rfl
def SAtomicUint64.l_v : Lens eAtomicUint64 u64E 0 := lIso _ SAtomicUint64.to SAtomicUint64.of (fun _ => rfl) (Lens.comp (lSnd eAtomicNoCopy (prodE eAtomicNoCopy u64E)) (Lens.comp (lSnd eAtomicNoCopy u64E) (Lens.id u64E)))
@[simp] theorem SAtomicUint64.get_v (x : SAtomicUint64) : SAtomicUint64.l_v.get x = x.v := rfl
@[simp] theorem SAtomicUint64.set_v (x : SAtomicUint64) (y : UInt64) : SAtomicUint64.l_v.set x y = { x with v := y } := rfl
set_option maxRecDepth 20000 in
theorem load64_ok (b o : Nat) (n : UInt64) (w : World) (h : PtsTo u64E w b o n) : Calls Tryz.prog 33 #[.pointer (some ⟨b, o, none⟩)] w (RetV w (U64 n)) := by
  refine en0 7 Tryz.func33 ?_
  refine sg (co (Ev.assign (.c (v := U64 0) rfl)) ?_)
  refine nP (sg (mv rfl (co (Ev.nilCheck (.t rfl)) ?_)))
  refine co (fA 0 (.t rfl)) ?_
  refine co (atLoad rfl zk rfl zk zk (.cons (.t rfl) .nil) (fun w I => h.keep I.keeps)) ?_
  refine asn rfl (nP (ret (done rfl (.tmp rfl .nil) (retE ?_))))
  rfl
set_option maxRecDepth 20000 in
theorem cas64_ok {α : Type} {E : Enc α} {o : Nat} (l : Lens E u64E o) (b : Nat) (xv : α) (m : UInt64) (Tt : TypeId) (w : World) (h : At (Var b E xv Tt) w) : Calls Tryz.prog 37 #[.pointer (some ⟨b, o, none⟩), U64 (l.get xv), U64 m] w (RetR w (Var b E xv Tt) (fun _ : Unit => True) (fun _ => .bool true) (fun _ => Var b E (l.set xv m) Tt)) := by
  refine enter (Var b E xv Tt).foot 13 [Var b E xv Tt] Tryz.func37 rfl rfl (Nat.le_of_ble_eq_true rfl) (start_at h) ?_
  refine sg (co (Ev.assign (.c (v := .bool false) rfl)) ?_)
  refine nP (sg (mv rfl (co (Ev.nilCheck (.t rfl)) ?_)))
  refine co (fA 0 (.t rfl)) ?_
  refine mv rfl (mv rfl (cons (casV rfl zk rfl zk zk l (.cons (.t rfl) (.cons (.t rfl) (.cons (.t rfl) .nil))) rfl zu ?_)))
  refine asn rfl (nP (ret (done rfl (.tmp rfl .nil) (fun w I => ?_))))
  exact retR () trivial rfl (by exact zm) w I
end Go.Proofs.YtakmoeladkajdaaGreat
namespace Go.Proofs.YtakmoeladkajdaaGreat
open Go Go.Gx Go.Proofs.YtakmoeladkajdaaGreat.Tri Go.Proofs.YtakmoeladkajdaaGreat.Oc
structure SRollState where
  end_ : UInt64
  stage : UInt64
  seen : UInt64
  dropped : UInt64
def SRollState.to : (UInt64 × (UInt64 × (UInt64 × UInt64))) → SRollState := fun x => ⟨x.1, x.2.1, x.2.2.1, x.2.2.2⟩
def SRollState.of : SRollState → (UInt64 × (UInt64 × (UInt64 × UInt64))) := fun x => (x.end_, x.stage, x.seen, x.dropped)
def eRollState : Enc SRollState := isoE (prodE u64E (prodE u64E (prodE u64E u64E))) SRollState.to SRollState.of
def SRollState.l_end_ : Lens eRollState u64E 0 := lIso _ SRollState.to SRollState.of (fun _ => rfl) (lFst u64E (prodE u64E (prodE u64E u64E)))
@[simp] theorem SRollState.get_end_ (x : SRollState) : SRollState.l_end_.get x = x.end_ := rfl
@[simp] theorem SRollState.set_end_ (x : SRollState) (y : UInt64) : SRollState.l_end_.set x y = { x with end_ := y } := rfl
def SRollState.l_stage : Lens eRollState u64E 1 := lIso _ SRollState.to SRollState.of (fun _ => rfl) (Lens.comp (lSnd u64E (prodE u64E (prodE u64E u64E))) (lFst u64E (prodE u64E u64E)))
@[simp] theorem SRollState.get_stage (x : SRollState) : SRollState.l_stage.get x = x.stage := rfl
@[simp] theorem SRollState.set_stage (x : SRollState) (y : UInt64) : SRollState.l_stage.set x y = { x with stage := y } := rfl
def SRollState.l_seen : Lens eRollState u64E 2 := lIso _ SRollState.to SRollState.of (fun _ => rfl) (Lens.comp (lSnd u64E (prodE u64E (prodE u64E u64E))) (Lens.comp (lSnd u64E (prodE u64E u64E)) (lFst u64E u64E)))
@[simp] theorem SRollState.get_seen (x : SRollState) : SRollState.l_seen.get x = x.seen := rfl
@[simp] theorem SRollState.set_seen (x : SRollState) (y : UInt64) : SRollState.l_seen.set x y = { x with seen := y } := rfl
def SRollState.l_dropped : Lens eRollState u64E 3 := lIso _ SRollState.to SRollState.of (fun _ => rfl) (Lens.comp (lSnd u64E (prodE u64E (prodE u64E u64E))) (Lens.comp (lSnd u64E (prodE u64E u64E)) (Lens.comp (lSnd u64E u64E) (Lens.id u64E))))
@[simp] theorem SRollState.get_dropped (x : SRollState) : SRollState.l_dropped.get x = x.dropped := rfl
@[simp] theorem SRollState.set_dropped (x : SRollState) (y : UInt64) : SRollState.l_dropped.set x y = { x with dropped := y } := rfl
structure SStage where
  parts : Int
  wait : UInt64
  most : UInt64
def SStage.to : (Int × (UInt64 × UInt64)) → SStage := fun x => ⟨x.1, x.2.1, x.2.2⟩
def SStage.of : SStage → (Int × (UInt64 × UInt64)) := fun x => (x.parts, x.wait, x.most)
def eStage : Enc SStage := isoE (prodE iE (prodE u64E u64E)) SStage.to SStage.of
def SStage.l_parts : Lens eStage iE 0 := lIso _ SStage.to SStage.of (fun _ => rfl) (lFst iE (prodE u64E u64E))
@[simp] theorem SStage.get_parts (x : SStage) : SStage.l_parts.get x = x.parts := rfl
@[simp] theorem SStage.set_parts (x : SStage) (y : Int) : SStage.l_parts.set x y = { x with parts := y } := rfl
def SStage.l_wait : Lens eStage u64E 1 := lIso _ SStage.to SStage.of (fun _ => rfl) (Lens.comp (lSnd iE (prodE u64E u64E)) (lFst u64E u64E))
@[simp] theorem SStage.get_wait (x : SStage) : SStage.l_wait.get x = x.wait := rfl
@[simp] theorem SStage.set_wait (x : SStage) (y : UInt64) : SStage.l_wait.set x y = { x with wait := y } := rfl
def SStage.l_most : Lens eStage u64E 2 := lIso _ SStage.to SStage.of (fun _ => rfl) (Lens.comp (lSnd iE (prodE u64E u64E)) (Lens.comp (lSnd u64E u64E) (Lens.id u64E)))
@[simp] theorem SStage.get_most (x : SStage) : SStage.l_most.get x = x.most := rfl
@[simp] theorem SStage.set_most (x : SStage) (y : UInt64) : SStage.l_most.set x y = { x with most := y } := rfl
def splitS (w : UInt64) : SRollState := ⟨shr64 w 50, shr64 w 42 &&& 255, shr64 w 21 &&& 2097151, w &&& 2097151⟩
def wordS (s : SRollState) : UInt64 := shl64 (shl64 (shl64 s.end_ 8 ||| s.stage) 21 ||| s.seen) 21 ||| s.dropped
def stageB (x : SStage) (last : Int) : Bool := !(decide (x.parts ≤ last) || decide (100 < x.parts) || decide (x.wait < 1) || decide (1048576 < x.wait) || decide (1048576 < x.most))
def stagesB : List SStage → Int → Bool
  | [], _ => true
  | x :: l, last => stageB x last && stagesB l x.parts
theorem z102 : (Tryz.prog.info? 102).bind (·.zero) = some (eRollState.val eRollState.zero) := by kernel_rfl
theorem ty102 : TyOK Tryz.prog 102 eRollState := TyOK.mk' zk zk
set_option maxRecDepth 8000 in
theorem split_ok (n : UInt64) (w : World) : Calls Tryz.prog 34 #[U64 n] w (RetV w (eRollState.val (splitS n))) := by
  refine en0 14 Tryz.func34 ?_
  refine sg (cons (alloc z102 (fun b1 => ?_)))
  refine nP (sg (mv rfl (co (Ev.shr_u64 (.t rfl) (.c rfl) (fun _ => by decide)) ?_)))
  refine mv rfl (co (Ev.shr_u64 (.t rfl) (.c rfl) (fun _ => by decide)) ?_)
  refine co (Ev.and_u64 (.t rfl) (.c (v := U64 255) rfl)) ?_
  refine mv rfl (co (Ev.shr_u64 (.t rfl) (.c rfl) (fun _ => by decide)) ?_)
  refine co (Ev.and_u64 (.t rfl) (.c (v := U64 2097151) rfl)) ?_
  refine mv rfl (co (Ev.and_u64 (.t rfl) (.c (v := U64 2097151) rfl)) ?_)
  refine co (Ev.buildS (fs := _) (places := [(0, 1), (1, 1), (2, 1), (3, 1)]) z102 rfl Tryz.underlying102 zk (.cons (.t rfl) (.cons (.t rfl) (.cons (.t rfl) (.cons (.t rfl) .nil)))) (Fills.cons SRollState.l_end_ rfl (Fills.cons SRollState.l_stage rfl (Fills.cons SRollState.l_seen rfl (Fills.cons SRollState.l_dropped rfl Fills.nil))))) ?_
  refine cons (stv ty102 (Lens.id _) (.t rfl) (.t rfl) ?_)
  refine nP (ret (done rfl (.cell rfl (fun w I => run_loadVar_pts ty102 (ptsVar zm (Lens.id _) w I)) .nil) (retE ?_)))
  rfl
set_option maxRecDepth 8000 in
theorem word_ok (s : SRollState) (w : World) : Calls Tryz.prog 36 #[eRollState.val s] w (RetV w (U64 (wordS s))) := by
  refine en0 25 Tryz.func36 ?_
  refine sg (cons (box (E := eRollState) (.t rfl) (fun b1 => ?_)))
  refine co (Ev.assign (.c (v := U64 0) rfl)) ?_
  refine nP (sg (co (fA 0 (.t rfl)) ?_))
  refine co (Ev.ldx s.end_ ty35 (.t rfl) SRollState.l_end_) ?_
  refine asn rfl (nP (sg (mv rfl (co (Ev.shl_u64 (.t rfl) (.c rfl) (fun _ => by decide)) ?_))))
  refine asn rfl (nP (sg (mv rfl (co (fA 1 (.t rfl)) ?_))))
  refine co (Ev.ldx s.stage ty35 (.t rfl) SRollState.l_stage) ?_
  refine co (Ev.or_u64 (.t rfl) (.t rfl)) ?_
  refine asn rfl (nP (sg (mv rfl (co (Ev.shl_u64 (.t rfl) (.c rfl) (fun _ => by decide)) ?_))))
  refine asn rfl (nP (sg (mv rfl (co (fA 2 (.t rfl)) ?_))))
  refine co (Ev.ldx s.seen ty35 (.t rfl) SRollState.l_seen) ?_
  refine co (Ev.or_u64 (.t rfl) (.t rfl)) ?_
  refine asn rfl (nP (sg (mv rfl (co (Ev.shl_u64 (.t rfl) (.c rfl) (fun _ => by decide)) ?_))))
  refine asn rfl (nP (sg (mv rfl (co (fA 3 (.t rfl)) ?_))))
  refine co (Ev.ldx s.dropped ty35 (.t rfl) SRollState.l_dropped) ?_
  refine co (Ev.or_u64 (.t rfl) (.t rfl)) ?_
  refine asn rfl (nP (sg (mv rfl (asn rfl (nP (ret (done rfl (.tmp rfl .nil) (retE ?_))))))))
  rfl
theorem en26 : Gx.Enters Tryz.prog 26 := Gx.Enters.mk' zk
set_option maxRecDepth 8000 in
theorem rollpart_ok (k : SKey) (w : World) : Calls Tryz.prog 11 #[eKey.val k] w (RetV w (U64 (partV k 100).1)) := by
  refine en0 11 Tryz.func11 ?_
  refine sg (cons (box (E := eKey) (.t rfl) (fun b1 => ?_)))
  refine co (Ev.assign (.c (v := U64 0) rfl)) ?_
  refine nP (sg (co (Ev.ldx k ty48 (.t rfl) (Lens.id _)) ?_))
  refine cons (callv en26 (.cons (.t rfl) (.cons (.c (v := U64 100) rfl) .nil)) (fun w I => part_ok _ _ w) ?_)
  refine mv rfl (co (Ev.extract (.t rfl) rfl) (co (Ev.extract (.t rfl) rfl) (asn rfl (asn rfl (nP (sg (mv rfl (asn rfl (nP (ret (done rfl (.tmp rfl .nil) (retE ?_))))))))))))
  rfl
end Go.Proofs.YtakmoeladkajdaaGreat
namespace Go.Proofs.YtakmoeladkajdaaGreat
open Go Go.Gx Go.Proofs.YtakmoeladkajdaaGreat.Tri Go.Proofs.YtakmoeladkajdaaGreat.Oc
theorem stages_step (l : List SStage) (i : Nat) (last : Int) (h : i < l.length) : stagesB (l.drop i) last = (stageB (l.getD i eStage.zero) last && stagesB (l.drop (i + 1)) (l.getD i eStage.zero).parts) := by
  rw [List.drop_eq_getElem_cons h]
  simp [stagesB, List.getD, h]
theorem ty37 : TyOK Tryz.prog 37 eStage := TyOK.mk' zk zk
theorem z37 : (Tryz.prog.info? 37).bind (·.zero) = some (eStage.val eStage.zero) := by kernel_rfl
set_option maxRecDepth 8000 in
theorem rollmay_ok (u : Value) (l : List SStage) (w : World) (hu : IsSl eStage w u l) : Calls Tryz.prog 25 #[u] w (RetV w (.bool (stagesB l 0 && decide (0 < l.length)))) := by
  have hle := hu.le
  refine en0 42 Tryz.func25 ?_
  refine sg (co (Ev.assign (.c (v := .bool false) rfl)) ?_)
  refine nP (sg (co (Ev.assign (.c (v := I 0) rfl)) ?_))
  refine nP (seq (sg (mv rfl (co (Ev.len Tryz.underlying29 (.t rfl) (fun w I => hu.keep0 I.keeps)) ?_))))
  refine co (Ev.move (.c (v := I 0) rfl)) ?_
  refine nP (block (lp (X := Int × Int) (fun x : Int × Int => (0 ≤ x.1 ∧ x.1 ≤ l.length) ∧ (stagesB (l.drop x.1.toNat) x.2 = stagesB l 0)) (fun x : Int × Int => [dz, (0, true, u), (3, true, I x.2), (6, true, u), (7, true, I l.length), (8, true, I x.1)]) (fun x : Int × Int => []) (fun x : Int × Int => ((l.length : Int) - x.1).toNat) (0, 0) ⟨?_, ?_⟩ (fun x hx => ?_)))
  · omega
  · rfl
  obtain ⟨i, last⟩ := x
  obtain ⟨hi, hs⟩ : (0 ≤ i ∧ i ≤ l.length) ∧ (stagesB (l.drop i.toNat) last = stagesB l 0) := hx
  show Sat _ _ [dz, (0, true, u), (3, true, I last), (6, true, u), (7, true, I l.length), (8, true, I i)] []
  refine sg (co (Ev.lss_i (.t rfl) (.t rfl)) ?_)
  refine nP (seq ?_)
  first | refine condD rfl (fun h0 => ?_) (fun h0 => ?_) | refine cond rfl (fun h0 => ?_) (fun h0 => ?_)
  · try simp only [Gx.nb] at h0
    refine skip (pN (seq (block (sg (co (Ev.indexAddr Tryz.underlying29 ty37 (.t rfl) (.t rfl) (fun w I => hu.keep0 I.keeps) (fun _ => zo)) ?_)))))
    refine co (Ev.loadS0 ty37 (.t rfl) (fun w I => hu.keep0 I.keeps) (fun _ => zo)) ?_
    refine cons (alloc z37 (fun b1 => ?_))
    refine cons (stv ty37 (Lens.id _) (.t rfl) (.t rfl) ?_)
    refine nP (seq (sg (co (fA 0 (.t rfl)) ?_)))
    refine co (Ev.ldv ty3 (.t rfl) SStage.l_parts) ?_
    refine mv rfl (co (Ev.leq_i (.t rfl) (.t rfl)) ?_)
    refine mv rfl (cg rfl rfl (fA 0 (.t rfl)) ?_)
    refine cg rfl rfl (Ev.ldv ty3 (.g rfl id) SStage.l_parts) ?_
    refine cg rfl rfl (Ev.gtr_i (.g rfl id) (.c (v := I 100) rfl)) ?_
    refine co (Ev.pkO (.t rfl) rfl) ?_
    refine mv rfl (cg rfl rfl (fA 1 (.t rfl)) ?_)
    refine cg rfl rfl (Ev.ldv ty35 (.g rfl id) SStage.l_wait) ?_
    refine cg rfl rfl (Ev.lss_u64 (.g rfl id) (.c (v := U64 1) rfl)) ?_
    refine co (Ev.pkO (.t rfl) rfl) ?_
    refine mv rfl (cg rfl rfl (fA 1 (.t rfl)) ?_)
    refine cg rfl rfl (Ev.ldv ty35 (.g rfl id) SStage.l_wait) ?_
    refine cg rfl rfl (Ev.gtr_u64 (.g rfl id) (.c (v := U64 1048576) rfl)) ?_
    refine co (Ev.pkO (.t rfl) rfl) ?_
    refine mv rfl (cg rfl rfl (fA 2 (.t rfl)) ?_)
    refine cg rfl rfl (Ev.ldv ty35 (.g rfl id) SStage.l_most) ?_
    refine cg rfl rfl (Ev.gtr_u64 (.g rfl id) (.c (v := U64 1048576) rfl)) ?_
    refine co (Ev.pkO (.t rfl) rfl) ?_
    refine nP ?_
    first | refine condD rfl (fun h1 => ?_) (fun h1 => ?_) | refine cond rfl (fun h1 => ?_) (fun h1 => ?_)
    · have hst : (decide ((l.getD i.toNat eStage.zero).parts ≤ last) || decide (100 < (l.getD i.toNat eStage.zero).parts) || decide ((l.getD i.toNat eStage.zero).wait < 1) || decide (1048576 < (l.getD i.toNat eStage.zero).wait) || decide (1048576 < (l.getD i.toNat eStage.zero).most)) = true := h1
      refine sg (co (Ev.assign (.c (v := .bool false) rfl)) ?_)
      refine nP (ret (pR (bR (pR (pR (bR (pR (done rfl (.tmp rfl .nil) (retE ?_)))))))))
      have e : stagesB l 0 = false := by
        rw [← hs, stages_step l i.toNat last (by omega)]
        unfold stageB
        rw [hst]
        rfl
      rw [e]; rfl
    · have hst : (decide ((l.getD i.toNat eStage.zero).parts ≤ last) || decide (100 < (l.getD i.toNat eStage.zero).parts) || decide ((l.getD i.toNat eStage.zero).wait < 1) || decide (1048576 < (l.getD i.toNat eStage.zero).wait) || decide (1048576 < (l.getD i.toNat eStage.zero).most)) = false := h1
      refine skip (pN (region (co (fA 0 (.t rfl)) ?_)))
      refine co (Ev.ldv ty3 (.t rfl) SStage.l_parts) ?_
      refine asn rfl (nil (bN (pN (region (co (Ev.add_i (.t rfl) (.c (v := I 1) rfl) (fun _ => zo)) ?_)))))
      refine mv rfl (nP (nx (X := Int × Int) (i + 1, _) ⟨?_, ?_⟩ ?_))
      · try dsimp only
        omega
      · try dsimp only
        rw [show (i + 1).toNat = i.toNat + 1 by omega, ← hs, stages_step l i.toNat last (by omega)]
        have e : stageB (l.getD i.toNat eStage.zero) last = true := by unfold stageB; rw [hst]; rfl
        rw [e, Bool.true_and]; rfl
      · try dsimp only
        omega
  · try simp only [Gx.nb] at h0
    refine exit (pX (pX (bX (pN (sg (mv rfl (co (Ev.len Tryz.underlying29 (.t rfl) (fun w I => hu.keep0 I.keeps)) ?_)))))))
    refine co (Ev.gtr_i (.t rfl) (.c (v := I 0) rfl)) ?_
    refine asn rfl (nP (ret (done rfl (.tmp rfl .nil) (retE ?_))))
    have e : i.toNat = l.length := by omega
    rw [e, List.drop_length] at hs
    rw [← hs]
    simp [stagesB]
    try rfl
end Go.Proofs.YtakmoeladkajdaaGreat
