/- Part. -/
import Derived.Test.YtmdkmclgfgaahaaGreatM3
set_option linter.unusedVariables false
set_option linter.unusedSimpArgs false
set_option linter.unusedSectionVars false
namespace Go.Proofs.YtmdkmclgfgaahaaGreat
open Go Go.Gx Go.Proofs.YtmdkmclgfgaahaaGreat.Tri
theorem putK_stepI {α κ : Type} (q : κ → κ → Bool) (f : α → κ) (l : List α) (z : α) {i : Int} (h : 0 ≤ i ∧ i < l.length) : putN q f (fun k : Nat => (k : Int)) l (i + 1).toNat = putL q (f (l.getD i.toNat z)) i (putN q f (fun k : Nat => (k : Int)) l i.toNat) := by
  rw [putN_stepI q f _ l z h]
  have e : ((i.toNat : Nat) : Int) = i := by omega
  simp only [e]
theorem vd_step (l : CL) {i : Int} (h : 0 ≤ i) : (List.range (i + 1).toNat).map (vdV l) = (List.range i.toNat).map (vdV l) ++ [vdV l i.toNat] := by
  have e : (i + 1).toNat = i.toNat + 1 := by omega
  rw [e, List.range_succ, List.map_append]
  rfl
theorem decider_to (b : Nat) (x : SPlanPlan) (r : OV) (a o : Int) (w : World) (hb : PtsTo ePlanPlan w b 0 x) (hr : x.routes = r) : Calls Tryz.prog 26 #[.pointer (some ⟨b, 0, none⟩), I a, I o] w (RetV w (decO r a o).v) := by
  subst hr
  exact decider_ok b x a o w hb
def noPl : Pl := ⟨0, ⟨nilSl, nilSl, nilSl, nilSl, nilSl⟩, 0, ⟨0, true, 0, .nil, .nil⟩, 0, nilSl, nilSl⟩
theorem en25 : Gx.Enters Tryz.prog 25 := Gx.Enters.mk' (by kernel_rfl)
theorem en22 : Gx.Enters Tryz.prog 22 := Gx.Enters.mk' (by kernel_rfl)
theorem en23 : Gx.Enters Tryz.prog 23 := Gx.Enters.mk' (by kernel_rfl)
theorem z73 : (Tryz.prog.info? 73).bind (·.zero) = some (ePlanPlan.val ePlanPlan.zero) := by kernel_rfl
theorem en24 : Gx.Enters Tryz.prog 24 := Gx.Enters.mk' (by kernel_rfl)
theorem ty70 : TyOK Tryz.prog 70 (ovE nilSl) := TyOK.mk' (by kernel_rfl) (by kernel_rfl)
theorem en26 : Gx.Enters Tryz.prog 26 := Gx.Enters.mk' (by kernel_rfl)
theorem ty95 : TyOK Tryz.prog 95 (ovE nilIf) := TyOK.mk' (by kernel_rfl) (by kernel_rfl)
theorem z95 : (Tryz.prog.info? 95).bind (·.zero) = some ((ovE nilIf).val (ovE nilIf).zero) := by kernel_rfl
theorem zb95 : (Tryz.prog.info? 95).map (fun i => (i.zero, i.bytes)) = some (some ((ovE nilIf).val (ovE nilIf).zero), 16) := by kernel_rfl
theorem zs95 : ((ovE nilIf).val (ovE nilIf).zero).cells.size = (ovE nilIf).size := by rw [Enc.cells_val, List.size_toArray, Enc.len]
theorem ty71 : TyOK Tryz.prog 71 (ovE nilSl) := TyOK.mk' (by kernel_rfl) (by kernel_rfl)
theorem z60 : (Tryz.prog.info? 60).bind (·.zero) = some (eVerdict.val eVerdict.zero) := by kernel_rfl
theorem ty60 : TyOK Tryz.prog 60 eVerdict := TyOK.mk' (by kernel_rfl) (by kernel_rfl)
theorem zb60 : (Tryz.prog.info? 60).map (fun i => (i.zero, i.bytes)) = some (some (eVerdict.val eVerdict.zero), 40) := by kernel_rfl
theorem zs60 : (eVerdict.val eVerdict.zero).cells.size = eVerdict.size := by rw [Enc.cells_val, List.size_toArray, Enc.len]
theorem en27 : Gx.Enters Tryz.prog 27 := Gx.Enters.mk' (by kernel_rfl)
theorem ty69 : TyOK Tryz.prog 69 (ovE nilPtr) := TyOK.mk' (by kernel_rfl) (by kernel_rfl)
set_option maxRecDepth 8000 in
theorem compile_plan (c : SConf) (l : CL) (w : World) (hc : ConfAt w c l) (hn : l.Names) (hz : l.n ≤ 4611686018427387904) : Calls Tryz.prog 7 #[eConf.val c] w (RetN w (CompileJ l c.default) (fun x : Pl × List Res => .tuple #[.pointer (plO l c.default x.1.b), I (plE l c.default)]) (fun x => x.2)) := by
  have hlp := hc.ps.le
  have hlr := hc.rs.le
  have hlu := hc.us.le
  have hlm := hc.ms.le
  have hlx := hc.xs.le
  refine en0 162 Tryz.func7 ?_
  refine sg (cons (box (E := eConf) (.t rfl) (fun b1 => ?_)))
  refine co (Ev.assign (.c (v := (Go.Value.pointer none)) rfl)) ?_
  refine co (Ev.assign (.c (v := I 0) rfl)) ?_
  refine nP (seq (sg (co (Ev.ldv ty28 (.t rfl) (Lens.id _)) ?_)))
  refine cons (callv en22 (.cons (.t rfl) .nil) (fun w I => may_ok c l w (hc.keep0 I.keeps) hn hz) ?_)
  refine co (Ev.not (.t rfl)) ?_
  refine nP ?_
  first | refine condD rfl (fun h0 => ?_) (fun h0 => ?_) | refine cond rfl (fun h0 => ?_) (fun h0 => ?_)
  · have hmay : mayB l c.default = false := by simpa using h0
    refine sg (co (Ev.assign (.c (v := (Go.Value.pointer none)) rfl)) ?_)
    refine co (Ev.assign (.c (v := I 210) rfl)) ?_
    refine nP (ret (pR (done rfl (.tmp rfl (.tmp rfl .nil)) (fun w I => ?_))))
    refine retNP (noPl, []) (fun h => by rw [hmay] at h; cases h) ?_ SubP.nil w I
    show _ = Value.tuple #[.pointer (plO l c.default _), Gx.I (plE l c.default)]
    unfold plO plE
    rw [hmay]
    rfl
  · have hmay : mayB l c.default = true := by simpa using h0
    have hlens := may_lens hmay
    have hcomp := may_comp hmay
    have hof := may_ofR hmay
    have hgm := good_ms (may_good hmay)
    have hgx := good_xs (may_good hmay)
    have hsm : l.Small := ⟨by omega, by omega, by omega, by omega, by omega⟩
    refine emp0 ?_
    refine skip (pN (sg (co (Ev.ldv ty28 (.t rfl) (Lens.id _)) ?_)))
    refine cons (calln (X := CB) (fun _ => True) (fun x => eConf.val (x.c c.default)) (fun x => x.R l) en23 (.cons (.t rfl) .nil) (fun w I => copy_ok c l w (hc.keep0 I.keeps) hsm) (fun x0 _ => ?_))
    refine takeSeps (r := Emp) (by repeat first | exact Rem.head | apply Rem.tail) ?_
    refine cons (makeMap (E := iE) (V := bE) (fun b2 => ?_))
    refine co (Ev.buildS (fs := _) (places := [(0, 6), (6, 1), (7, 1), (8, 1), (9, 1), (10, 1)]) z73 rfl Tryz.underlying73 (by kernel_rfl) (.cons (.t rfl) (.cons (.t (v := (mapV b2).v) rfl) .nil)) (Fills.cons SPlanPlan.l_conf rfl (Fills.cons SPlanPlan.l_ports rfl Fills.nil))) ?_
    refine cons (box (E := ePlanPlan) (.t rfl) (fun b3 => ?_))
    refine asn rfl (nP (seq (sg (co (fA 0 (.t rfl)) ?_))))
    refine co (Ev.ldv ty22 (.t rfl) SConf.l_ports) ?_
    refine co (Ev.len Tryz.underlying22 (.t rfl) (fun w I => (hc.keep0 I.keeps).ps)) ?_
    refine co (Ev.move (.c (v := I 0) rfl)) ?_
    refine nP (block (lp (X := Int) (fun x : Int => (0 ≤ x ∧ x ≤ l.ps.length)) (fun x : Int => [dz, (1, true, .pointer (some ⟨b1, 0, none⟩)), (4, true, .pointer (some ⟨b3, 0, none⟩)), (27, true, c.ports.v), (28, true, I l.ps.length), (29, true, I x)]) (fun x : Int => [Var b3 ePlanPlan (⟨x0.c c.default, mapV b2, nilPtr, nilPtr, nilSl, nilSl⟩ : SPlanPlan) 73, MapR b2 iE bE (putN eqd (fun x => x) (fun _ => true) l.ps x.toNat), Seps Emp (x0.R l), Var b1 eConf c 28]) (fun x : Int => ((l.ps.length : Int) - x).toNat) (0) ?_ (fun x hx => ?_)))
    · omega
    obtain ⟨i0, rfl⟩ : ∃ y, y = x := ⟨x, rfl⟩
    have hi0 : 0 ≤ i0 ∧ i0 ≤ l.ps.length := hx
    clear hx
    show Sat _ _ [dz, (1, true, .pointer (some ⟨b1, 0, none⟩)), (4, true, .pointer (some ⟨b3, 0, none⟩)), (27, true, c.ports.v), (28, true, I l.ps.length), (29, true, I i0)] [Var b3 ePlanPlan (⟨x0.c c.default, mapV b2, nilPtr, nilPtr, nilSl, nilSl⟩ : SPlanPlan) 73, MapR b2 iE bE (putN eqd (fun x => x) (fun _ => true) l.ps i0.toNat), Seps Emp (x0.R l), Var b1 eConf c 28]
    refine sg (co (Ev.lss_i (.t rfl) (.t rfl)) ?_)
    refine nP (seq ?_)
    first | refine condD rfl (fun h1 => ?_) (fun h1 => ?_) | refine cond rfl (fun h1 => ?_) (fun h1 => ?_)
    · try simp only [Gx.nb] at h1
      refine skip (pN (seq (block (sg (co (Ev.indexAddr Tryz.underlying22 ty3 (.t rfl) (.t rfl) (fun w I => (hc.keep0 I.keeps).ps) (fun _ => by omega)) ?_)))))
      refine co (Ev.loadS0 ty3 (.t rfl) (fun w I => (hc.keep0 I.keeps).ps) (fun _ => by omega)) ?_
      refine asn rfl (nP (region (mv rfl (co (Ev.nilCheck (.t rfl)) ?_))))
      refine co (fA 6 (.t rfl)) ?_
      refine co (Ev.to (v' := .map (some b2)) (Ev.ldv ty67 (.t rfl) SPlanPlan.l_ports) (rfl)) ?_
      refine mv rfl (cons (mapUpdate (V := bE) (v := true) Tryz.underlying67 Tryz.underlying3 key3 (.t rfl) (.t rfl) (.c rfl) (by repeat first | exact Upd.head | apply Upd.tail | apply Upd.right) ?_))
      refine nil (bN (pN (region (co (Ev.add_i (.t rfl) (.c (v := I 1) rfl) (fun _ => by omega)) ?_))))
      refine mv rfl (nP (nx (X := Int) (i0 + 1) ?_ ?_ (hL := (by rw [putN_stepI _ _ _ _ iE.zero (by omega)]; exact (by repeat first | exact sR | exact sN | apply sC | apply sS | apply sA)))))
      · try dsimp only
        omega
      · try dsimp only
        omega
    · try simp only [Gx.nb] at h1
      refine exit (pX (pX (bX (pN (seq ?_)))))
      have e0 : i0.toNat = l.ps.length := by omega
      rw [e0]
      refine region (co (Ev.assign (.c (v := I 0) rfl)) ?_)
      refine nP (seq (sg (mv rfl (co (fA 1 (.t rfl)) ?_))))
      refine co (Ev.ldv ty23 (.t rfl) SConf.l_routes) ?_
      refine cons (calln (X := Tt × List Res) (Tri.TofJ l.rs) (fun x => .tuple #[.pointer (Tri.pO (Tri.ofR l.rs) x.1.b), I (Tri.ofR l.rs)]) (fun x => x.2) en24 (.cons (.t rfl) .nil) (fun w I => Tri.tof_ok _ l.rs w (hc.keep0 I.keeps).rs (by omega)) (fun xt hxt => ?_))
      refine mv rfl (co (Ev.to (v' := xt.1.ptr.v) (Ev.extract (.t rfl) rfl) (congrArg Value.pointer (if_pos hof))) ?_)
      refine co (Ev.to (v' := I 0) (Ev.extract (.t rfl) rfl) (congrArg Gx.I hof)) ?_
      refine co (Ev.nilCheck (.t rfl)) ?_
      refine co (fA 7 (.t rfl)) ?_
      refine cons (stv ty68 SPlanPlan.l_routes (.t rfl) (.t rfl) ?_)
      refine asn rfl (nP (seq (takeSeps (r := Seps Emp (x0.R l)) (by repeat first | exact Rem.head | apply Rem.tail) ?_)))
      obtain ⟨hok, hen, _, htr⟩ := hxt hof
      refine region (mv rfl (co (Ev.neq_i (.t rfl) (.c (v := I 0) rfl)) ?_))
      refine nP (condF rfl (rfl) ?_)
      refine skip (pN (sg (cons (makeMap (E := sE) (V := iE) (fun b4 => ?_)))))
      refine cons (makeMap (E := sE) (V := iE) (fun b5 => ?_))
      refine asn rfl (asn rfl (nP (seq (sg (co (fA 3 (.t rfl)) ?_)))))
      refine co (Ev.ldv ty25 (.t rfl) SConf.l_meters) ?_
      refine co (Ev.len Tryz.underlying25 (.t rfl) (fun w I => (hc.keep0 I.keeps).ms)) ?_
      refine co (Ev.move (.c (v := I 0) rfl)) ?_
      refine nP (block (lp (X := Int) (fun x : Int => (0 ≤ x ∧ x ≤ l.ms.length)) (fun x : Int => [dz, (1, true, .pointer (some ⟨b1, 0, none⟩)), (4, true, .pointer (some ⟨b3, 0, none⟩)), (8, true, .map (some b4)), (9, true, .map (some b5)), (53, true, c.meters.v), (54, true, I l.ms.length), (55, true, I x)]) (fun x : Int => [MapR b5 sE iE ([] : List (ByteArray × Int)), MapR b4 sE iE (putN eqs (fun r : SMeterConf => r.name) (fun k : Nat => (k : Int)) l.ms x.toNat), Seps (Seps Emp (x0.R l)) xt.2, Var b3 ePlanPlan (⟨x0.c c.default, mapV b2, xt.1.ptr, nilPtr, nilSl, nilSl⟩ : SPlanPlan) 73, MapR b2 iE bE (portsP l), Var b1 eConf c 28]) (fun x : Int => ((l.ms.length : Int) - x).toNat) (0) ?_ (fun x hx => ?_)))
      · omega
      obtain ⟨i1, rfl⟩ : ∃ y, y = x := ⟨x, rfl⟩
      have hi1 : 0 ≤ i1 ∧ i1 ≤ l.ms.length := hx
      clear hx
      show Sat _ _ [dz, (1, true, .pointer (some ⟨b1, 0, none⟩)), (4, true, .pointer (some ⟨b3, 0, none⟩)), (8, true, .map (some b4)), (9, true, .map (some b5)), (53, true, c.meters.v), (54, true, I l.ms.length), (55, true, I i1)] [MapR b5 sE iE ([] : List (ByteArray × Int)), MapR b4 sE iE (putN eqs (fun r : SMeterConf => r.name) (fun k : Nat => (k : Int)) l.ms i1.toNat), Seps (Seps Emp (x0.R l)) xt.2, Var b3 ePlanPlan (⟨x0.c c.default, mapV b2, xt.1.ptr, nilPtr, nilSl, nilSl⟩ : SPlanPlan) 73, MapR b2 iE bE (portsP l), Var b1 eConf c 28]
      refine sg (co (Ev.lss_i (.t rfl) (.t rfl)) ?_)
      refine nP (seq ?_)
      first | refine condD rfl (fun h3 => ?_) (fun h3 => ?_) | refine cond rfl (fun h3 => ?_) (fun h3 => ?_)
      · try simp only [Gx.nb] at h3
        refine skip (pN (seq (block (sg (mv rfl (co (Ev.indexAddr Tryz.underlying25 ty81 (.t rfl) (.t rfl) (fun w I => (hc.keep0 I.keeps).ms) (fun _ => by omega)) ?_))))))
        refine co (Ev.loadS0 ty81 (.t rfl) (fun w I => (hc.keep0 I.keeps).ms) (fun _ => by omega)) ?_
        refine cons (alloc z81 (fun b6 => ?_))
        refine asn rfl (cons (stv ty81 (Lens.id _) (.t rfl) (.t rfl) ?_))
        refine nP (region (mv rfl (co (fA 0 (.t rfl)) ?_)))
        refine co (Ev.ldv ty9 (.t rfl) SMeterConf.l_name) ?_
        refine mv rfl (cons (mapUpdate Tryz.underlying76 Tryz.underlying9 key9 (.t rfl) (.t rfl) (.t rfl) (by repeat first | exact Upd.head | apply Upd.tail | apply Upd.right) ?_))
        refine nil (bN (pN (region (co (Ev.add_i (.t rfl) (.c (v := I 1) rfl) (fun _ => by omega)) ?_))))
        refine mv rfl (nP (nx (X := Int) (i1 + 1) ?_ ?_ (hL := (by rw [putK_stepI _ _ _ eMeterConf.zero (by omega)]; exact (by repeat first | exact sR | exact sN | apply sC | apply sS | apply sA)))))
        · try dsimp only
          omega
        · try dsimp only
          omega
      · try simp only [Gx.nb] at h3
        refine exit (pX (pX (bX (pN (seq (seq ?_))))))
        have e1 : i1.toNat = l.ms.length := by omega
        rw [e1]
        refine region (co (fA 4 (.t rfl)) ?_)
        refine co (Ev.ldv ty26 (.t rfl) SConf.l_mirrors) ?_
        refine co (Ev.len Tryz.underlying26 (.t rfl) (fun w I => (hc.keep0 I.keeps).xs)) ?_
        refine co (Ev.move (.c (v := I 0) rfl)) ?_
        refine nP (block (lp (X := Int) (fun x : Int => (0 ≤ x ∧ x ≤ l.xs.length)) (fun x : Int => [dz, (1, true, .pointer (some ⟨b1, 0, none⟩)), (4, true, .pointer (some ⟨b3, 0, none⟩)), (8, true, .map (some b4)), (9, true, .map (some b5)), (66, true, c.mirrors.v), (67, true, I l.xs.length), (68, true, I x)]) (fun x : Int => [MapR b5 sE iE (putN eqs (fun r : SMirrorConf => r.name) (fun k : Nat => (k : Int)) l.xs x.toNat), MapR b4 sE iE (putN eqs (fun r : SMeterConf => r.name) (fun k : Nat => (k : Int)) l.ms l.ms.length), Seps (Seps Emp (x0.R l)) xt.2, Var b3 ePlanPlan (⟨x0.c c.default, mapV b2, xt.1.ptr, nilPtr, nilSl, nilSl⟩ : SPlanPlan) 73, MapR b2 iE bE (portsP l), Var b1 eConf c 28]) (fun x : Int => ((l.xs.length : Int) - x).toNat) (0) ?_ (fun x hx => ?_)))
        · omega
        obtain ⟨i2, rfl⟩ : ∃ y, y = x := ⟨x, rfl⟩
        have hi2 : 0 ≤ i2 ∧ i2 ≤ l.xs.length := hx
        clear hx
        show Sat _ _ [dz, (1, true, .pointer (some ⟨b1, 0, none⟩)), (4, true, .pointer (some ⟨b3, 0, none⟩)), (8, true, .map (some b4)), (9, true, .map (some b5)), (66, true, c.mirrors.v), (67, true, I l.xs.length), (68, true, I i2)] [MapR b5 sE iE (putN eqs (fun r : SMirrorConf => r.name) (fun k : Nat => (k : Int)) l.xs i2.toNat), MapR b4 sE iE (putN eqs (fun r : SMeterConf => r.name) (fun k : Nat => (k : Int)) l.ms l.ms.length), Seps (Seps Emp (x0.R l)) xt.2, Var b3 ePlanPlan (⟨x0.c c.default, mapV b2, xt.1.ptr, nilPtr, nilSl, nilSl⟩ : SPlanPlan) 73, MapR b2 iE bE (portsP l), Var b1 eConf c 28]
        refine sg (co (Ev.lss_i (.t rfl) (.t rfl)) ?_)
        refine nP (seq ?_)
        first | refine condD rfl (fun h4 => ?_) (fun h4 => ?_) | refine cond rfl (fun h4 => ?_) (fun h4 => ?_)
        · try simp only [Gx.nb] at h4
          refine skip (pN (seq (block (sg (mv rfl (co (Ev.indexAddr Tryz.underlying26 ty83 (.t rfl) (.t rfl) (fun w I => (hc.keep0 I.keeps).xs) (fun _ => by omega)) ?_))))))
          refine co (Ev.loadS0 ty83 (.t rfl) (fun w I => (hc.keep0 I.keeps).xs) (fun _ => by omega)) ?_
          refine cons (alloc z83 (fun b7 => ?_))
          refine asn rfl (cons (stv ty83 (Lens.id _) (.t rfl) (.t rfl) ?_))
          refine nP (region (mv rfl (co (fA 0 (.t rfl)) ?_)))
          refine co (Ev.ldv ty9 (.t rfl) SMirrorConf.l_name) ?_
          refine mv rfl (cons (mapUpdate Tryz.underlying76 Tryz.underlying9 key9 (.t rfl) (.t rfl) (.t rfl) (by repeat first | exact Upd.head | apply Upd.tail | apply Upd.right) ?_))
          refine nil (bN (pN (region (co (Ev.add_i (.t rfl) (.c (v := I 1) rfl) (fun _ => by omega)) ?_))))
          refine mv rfl (nP (nx (X := Int) (i2 + 1) ?_ ?_ (hL := (by rw [putK_stepI _ _ _ eMirrorConf.zero (by omega)]; exact (by repeat first | exact sR | exact sN | apply sC | apply sS | apply sA)))))
          · try dsimp only
            omega
          · try dsimp only
            omega
        · try simp only [Gx.nb] at h4
          refine exit (pX (pX (bX (pN (seq ?_)))))
          have e2 : i2.toNat = l.xs.length := by omega
          rw [e2]
          refine region (co (Ev.assign .f) ?_)
          refine nP (sg (co (Ev.assign (.c (v := (Go.Value.slice none 0 0)) rfl)) ?_))
          refine takeNil eMatch 91 ?_
          refine nP (seq (sg (co (fA 2 (.t rfl)) ?_)))
          refine co (Ev.ldv ty24 (.t rfl) SConf.l_rules) ?_
          refine co (Ev.len Tryz.underlying24 (.t rfl) (fun w I => (hc.keep0 I.keeps).us)) ?_
          refine co (Ev.move (.c (v := I 0) rfl)) ?_
          refine nP (block (takeNil (ovE nilIf) 95 ?_))
          refine takeNil eVerdict 60 ?_
          refine lp (X := Int × OV × OV × OV) (fun x : Int × OV × OV × OV => (0 ≤ x.1 ∧ x.1 ≤ l.us.length)) (fun x : Int × OV × OV × OV => [dz, (1, true, .pointer (some ⟨b1, 0, none⟩)), (4, true, .pointer (some ⟨b3, 0, none⟩)), (8, true, .map (some b4)), (9, true, .map (some b5)), (14, true, (clo 25 []).v), (15, true, x.2.1.v), (79, true, c.rules.v), (80, true, I l.us.length), (81, true, I x.1)]) (fun x : Int × OV × OV × OV => [OwnS x.2.2.2.v eVerdict ((List.range x.1.toNat).map (vdV l)) 60, OwnS x.2.2.1.v (ovE nilIf) ((l.us.take x.1.toNat).map (fun u => decO xt.1.ptr u.action u.out)) 95, OwnS x.2.1.v eMatch ((l.us.take x.1.toNat).map (fun r => r.match_)) 91, MapR b5 sE iE (putN eqs (fun r : SMirrorConf => r.name) (fun k : Nat => (k : Int)) l.xs l.xs.length), MapR b4 sE iE (putN eqs (fun r : SMeterConf => r.name) (fun k : Nat => (k : Int)) l.ms l.ms.length), Seps (Seps Emp (x0.R l)) xt.2, Var b3 ePlanPlan (⟨x0.c c.default, mapV b2, xt.1.ptr, nilPtr, x.2.2.1, x.2.2.2⟩ : SPlanPlan) 73, MapR b2 iE bE (portsP l), Var b1 eConf c 28]) (fun x : Int × OV × OV × OV => ((l.us.length : Int) - x.1).toNat) (0, nilSl, nilSl, nilSl) ?_ (fun x hx => ?_)
          · omega
          obtain ⟨i3, q, dv, vv⟩ := x
          have hi3 : 0 ≤ i3 ∧ i3 ≤ l.us.length := hx
          clear hx
          show Sat _ _ [dz, (1, true, .pointer (some ⟨b1, 0, none⟩)), (4, true, .pointer (some ⟨b3, 0, none⟩)), (8, true, .map (some b4)), (9, true, .map (some b5)), (14, true, (clo 25 []).v), (15, true, q.v), (79, true, c.rules.v), (80, true, I l.us.length), (81, true, I i3)] [OwnS vv.v eVerdict ((List.range i3.toNat).map (vdV l)) 60, OwnS dv.v (ovE nilIf) ((l.us.take i3.toNat).map (fun u => decO xt.1.ptr u.action u.out)) 95, OwnS q.v eMatch ((l.us.take i3.toNat).map (fun r => r.match_)) 91, MapR b5 sE iE (putN eqs (fun r : SMirrorConf => r.name) (fun k : Nat => (k : Int)) l.xs l.xs.length), MapR b4 sE iE (putN eqs (fun r : SMeterConf => r.name) (fun k : Nat => (k : Int)) l.ms l.ms.length), Seps (Seps Emp (x0.R l)) xt.2, Var b3 ePlanPlan (⟨x0.c c.default, mapV b2, xt.1.ptr, nilPtr, dv, vv⟩ : SPlanPlan) 73, MapR b2 iE bE (portsP l), Var b1 eConf c 28]
          have hq1 : ((l.us.take i3.toNat).map (fun r => r.match_)).length ≤ 256 := by simp; omega
          have hq2 : ((l.us.take i3.toNat).map (fun u => decO xt.1.ptr u.action u.out)).length ≤ 256 := by simp; omega
          have hq3 : ((List.range i3.toNat).map (vdV l)).length ≤ 256 := by simp; omega
          refine sg (co (Ev.lss_i (.t rfl) (.t rfl)) ?_)
          refine nP (seq ?_)
          first | refine condD rfl (fun h5 => ?_) (fun h5 => ?_) | refine cond rfl (fun h5 => ?_) (fun h5 => ?_)
          · try simp only [Gx.nb] at h5
            refine skip (pN (seq (block (sg (mv rfl (co (Ev.indexAddr Tryz.underlying24 ty93 (.t rfl) (.t rfl) (fun w I => (hc.keep0 I.keeps).us) (fun _ => by omega)) ?_))))))
            refine co (Ev.loadS0 ty93 (.t rfl) (fun w I => (hc.keep0 I.keeps).us) (fun _ => by omega)) ?_
            refine cons (alloc z93 (fun b8 => ?_))
            refine asn rfl (cons (stv ty93 (Lens.id _) (.t rfl) (.t rfl) ?_))
            refine nP (sg (mv rfl (co (fA 1 (.t rfl)) ?_)))
            refine co (Ev.ldv ty91 (.t rfl) SRule.l_match_) ?_
            refine cons (buildSlice (E := eMatch) Tryz.underlying85 ty91 z91 (.cons (.t rfl) .nil) rfl rfl (fun v9 => ?_))
            refine cons (app (E := eMatch) Tryz.underlying85 ty91 zb91 zs91 (.t rfl) (.t rfl) (fun v10 => ?_) (hby := ⟨by (show _ ≤ 9223372036854775807); first | omega | (simp; done) | (simp; omega), by first | omega | (simp; done) | (simp; omega)⟩))
            refine asn rfl (nP (cut (X := OV × OV) (fun x : OV × OV => True) (fun x : OV × OV => [dz, (1, true, .pointer (some ⟨b1, 0, none⟩)), (4, true, .pointer (some ⟨b3, 0, none⟩)), (8, true, .map (some b4)), (9, true, .map (some b5)), (14, true, (clo 25 []).v), (15, true, x.1.v), (16, true, I i3), (17, true, .pointer (some ⟨b8, 0, none⟩)), (79, true, c.rules.v), (80, true, I l.us.length), (81, true, I i3)]) (fun x : OV × OV => [Var b8 eRule (l.us.getD i3.toNat eRule.zero) 93, OwnS vv.v eVerdict ((List.range i3.toNat).map (vdV l)) 60, OwnS x.2.v (ovE nilIf) (((l.us.take i3.toNat).map (fun u => decO xt.1.ptr u.action u.out)) ++ [decO xt.1.ptr (l.us.getD i3.toNat eRule.zero).action (l.us.getD i3.toNat eRule.zero).out]) 95, OwnS x.1.v eMatch (((l.us.take i3.toNat).map (fun r => r.match_)) ++ [(l.us.getD i3.toNat eRule.zero).match_]) 91, MapR b5 sE iE (putN eqs (fun r : SMirrorConf => r.name) (fun k : Nat => (k : Int)) l.xs l.xs.length), MapR b4 sE iE (putN eqs (fun r : SMeterConf => r.name) (fun k : Nat => (k : Int)) l.ms l.ms.length), Seps (Seps Emp (x0.R l)) xt.2, Var b3 ePlanPlan (⟨x0.c c.default, mapV b2, xt.1.ptr, nilPtr, x.2, vv⟩ : SPlanPlan) 73, MapR b2 iE bE (portsP l), Var b1 eConf c 28]) ?_ (fun x hx => ?_)))
            · refine draw [Var b8 eRule (l.us.getD i3.toNat eRule.zero) 93] (by kernel_rfl) ?_
              refine tk 0 rfl (Ev.move (.t rfl)) ?_
              refine tk 1 rfl (Ev.move (.t rfl)) ?_
              refine tk 2 rfl (Ev.nilCheck (.t rfl)) ?_
              refine tk 3 rfl (fA 9 (.t rfl)) ?_
              refine tk 5 rfl (Ev.move (.t rfl)) ?_
              refine tk 6 rfl (fA 45 (.t rfl)) ?_
              refine tk 7 rfl (Ev.ldv ty3 (.t rfl) SRule.l_action) ?_
              refine tk 8 rfl (fA 46 (.t rfl)) ?_
              refine tk 9 rfl (Ev.ldv ty3 (.t rfl) SRule.l_out) ?_
              refine all [4, 10] (by kernel_rfl) (by decide) (.cons rfl ?_ (.cons rfl ?_ .nil))
              · refine (opv (Ev.to (v' := dv.v) (Ev.ldv ty70 (.t rfl) SPlanPlan.l_deciders) (rfl)) ?_)
                refine hdn (al1 10 rfl ((callv en26 (.cons (.t rfl) (.cons (.t rfl) (.cons (.t rfl) .nil))) (fun w I => decider_to b3 _ xt.1.ptr _ _ w (ptsVar (E' := ePlanPlan) (by repeat first | exact mH | apply mT | apply mA) (Lens.id _) w I) rfl) ?_)))
                refine hdn (al1 11 rfl ((buildSlice (E := (ovE nilIf)) Tryz.underlying70 ty95 z95 (.cons (.t rfl) .nil) rfl rfl (fun v11 => ?_))))
                refine hdn (al1 12 rfl ((app (E := (ovE nilIf)) Tryz.underlying70 ty95 zb95 zs95 (.t rfl) (.t rfl) (fun v12 => ?_) (hby := ⟨by (show _ ≤ 9223372036854775807); first | omega | (simp; done) | (simp; omega), by first | omega | (simp; done) | (simp; omega)⟩))))
                refine hdn (tk 13 rfl (Ev.nilCheck (.t rfl)) ?_)
                refine tk 14 rfl (fA 9 (.t rfl)) ?_
                refine al1 15 rfl ((stv ty70 SPlanPlan.l_deciders (.t rfl) (.t rfl) ?_))
                refine hdn (ovr (pN (mtP (X := OV × OV) (_, _) trivial)))
              · refine (callv en26 (.cons (.t rfl) (.cons (.t rfl) (.cons (.t rfl) .nil))) (fun w I => decider_to b3 _ xt.1.ptr _ _ w (ptsVar (E' := ePlanPlan) (by repeat first | exact mH | apply mT | apply mA) (Lens.id _) w I) rfl) ?_)
                refine hdn (all [4, 11] (by kernel_rfl) (by decide) (.cons rfl ?_ (.cons rfl ?_ .nil)))
                · refine (opv (Ev.to (v' := dv.v) (Ev.ldv ty70 (.t rfl) SPlanPlan.l_deciders) (rfl)) ?_)
                  refine hdn (al1 11 rfl ((buildSlice (E := (ovE nilIf)) Tryz.underlying70 ty95 z95 (.cons (.t rfl) .nil) rfl rfl (fun v13 => ?_))))
                  refine hdn (al1 12 rfl ((app (E := (ovE nilIf)) Tryz.underlying70 ty95 zb95 zs95 (.t rfl) (.t rfl) (fun v14 => ?_) (hby := ⟨by (show _ ≤ 9223372036854775807); first | omega | (simp; done) | (simp; omega), by first | omega | (simp; done) | (simp; omega)⟩))))
                  refine hdn (tk 13 rfl (Ev.nilCheck (.t rfl)) ?_)
                  refine tk 14 rfl (fA 9 (.t rfl)) ?_
                  refine al1 15 rfl ((stv ty70 SPlanPlan.l_deciders (.t rfl) (.t rfl) ?_))
                  refine hdn (ovr (pN (mtP (X := OV × OV) (_, _) trivial)))
                · refine (buildSlice (E := (ovE nilIf)) Tryz.underlying70 ty95 z95 (.cons (.t rfl) .nil) rfl rfl (fun v15 => ?_))
                  refine hdn (al1 4 rfl ((opv (Ev.to (v' := dv.v) (Ev.ldv ty70 (.t rfl) SPlanPlan.l_deciders) (rfl)) ?_)))
                  refine hdn (al1 12 rfl ((app (E := (ovE nilIf)) Tryz.underlying70 ty95 zb95 zs95 (.t rfl) (.t rfl) (fun v16 => ?_) (hby := ⟨by (show _ ≤ 9223372036854775807); first | omega | (simp; done) | (simp; omega), by first | omega | (simp; done) | (simp; omega)⟩))))
                  refine hdn (tk 13 rfl (Ev.nilCheck (.t rfl)) ?_)
                  refine tk 14 rfl (fA 9 (.t rfl)) ?_
                  refine al1 15 rfl ((stv ty70 SPlanPlan.l_deciders (.t rfl) (.t rfl) ?_))
                  refine hdn (ovr (pN (mtP (X := OV × OV) (_, _) trivial)))
            obtain ⟨q1, dv1⟩ := x
            show Sat _ _ [dz, (1, true, .pointer (some ⟨b1, 0, none⟩)), (4, true, .pointer (some ⟨b3, 0, none⟩)), (8, true, .map (some b4)), (9, true, .map (some b5)), (14, true, (clo 25 []).v), (15, true, q1.v), (16, true, I i3), (17, true, .pointer (some ⟨b8, 0, none⟩)), (79, true, c.rules.v), (80, true, I l.us.length), (81, true, I i3)] [Var b8 eRule (l.us.getD i3.toNat eRule.zero) 93, OwnS vv.v eVerdict ((List.range i3.toNat).map (vdV l)) 60, OwnS dv1.v (ovE nilIf) (((l.us.take i3.toNat).map (fun u => decO xt.1.ptr u.action u.out)) ++ [decO xt.1.ptr (l.us.getD i3.toNat eRule.zero).action (l.us.getD i3.toNat eRule.zero).out]) 95, OwnS q1.v eMatch (((l.us.take i3.toNat).map (fun r => r.match_)) ++ [(l.us.getD i3.toNat eRule.zero).match_]) 91, MapR b5 sE iE (putN eqs (fun r : SMirrorConf => r.name) (fun k : Nat => (k : Int)) l.xs l.xs.length), MapR b4 sE iE (putN eqs (fun r : SMeterConf => r.name) (fun k : Nat => (k : Int)) l.ms l.ms.length), Seps (Seps Emp (x0.R l)) xt.2, Var b3 ePlanPlan (⟨x0.c c.default, mapV b2, xt.1.ptr, nilPtr, dv1, vv⟩ : SPlanPlan) 73, MapR b2 iE bE (portsP l), Var b1 eConf c 28]
            refine draw [Var b8 eRule (l.us.getD i3.toNat eRule.zero) 93] (by kernel_rfl) ?_
            refine tk 0 rfl (Ev.move (.t rfl)) ?_
            refine tk 1 rfl (Ev.move (.t rfl)) ?_
            refine tk 2 rfl (Ev.nilCheck (.t rfl)) ?_
            refine tk 3 rfl (fA 10 (.t rfl)) ?_
            refine tk 5 rfl (Ev.to (v' := I ((i3.toNat : Nat) : Int)) (Ev.move (.t rfl)) (congrArg Gx.I (by omega))) ?_
            refine tk 6 rfl (Ev.move (.t rfl)) ?_
            refine tk 7 rfl (Ev.move (.t rfl)) ?_
            refine tk 8 rfl (fA 47 (.t rfl)) ?_
            refine tk 9 rfl (Ev.ldv ty9 (.t rfl) SRule.l_meter) ?_
            refine tk 11 rfl (Ev.move (.t rfl)) ?_
            refine tk 12 rfl (Ev.move (.t rfl)) ?_
            refine tk 13 rfl (fA 48 (.t rfl)) ?_
            refine tk 14 rfl (Ev.ldv ty9 (.t rfl) SRule.l_mirror) ?_
            refine all [4, 10] (by kernel_rfl) (by decide) (.cons rfl ?_ (.cons rfl ?_ .nil))
            · refine (opv (Ev.to (v' := vv.v) (Ev.ldv ty71 (.t rfl) SPlanPlan.l_verdicts) (rfl)) ?_)
              refine hdn (al1 10 rfl ((callcv (.t rfl) en25 (.cons (.t rfl) (.cons (.t rfl) .nil)) (fun w I => number_ok b4 _ _ _ w (mapAt_own (by repeat first | exact mH | apply mT | apply mA) w I) (name_num hgm _)) ?_)))
              refine hdn (al1 15 rfl ((callcv (.t rfl) en25 (.cons (.t rfl) (.cons (.t rfl) .nil)) (fun w I => number_ok b5 _ _ _ w (mapAt_own (by repeat first | exact mH | apply mT | apply mA) w I) (name_num hgx _)) ?_)))
              refine hdn (tk 16 rfl (Ev.buildS (fs := _) (places := [(0, 1), (1, 1), (2, 1), (3, 1), (4, 1)]) z60 rfl Tryz.underlying60 (by kernel_rfl) (.cons (.t rfl) (.cons (.t rfl) (.cons (.t rfl) .nil))) (Fills.cons SVerdict.l_rule rfl (Fills.cons SVerdict.l_meter rfl (Fills.cons SVerdict.l_mirror rfl Fills.nil)))) ?_)
              refine al1 17 rfl ((buildSlice (E := eVerdict) Tryz.underlying71 ty60 z60 (.cons (.t rfl) .nil) rfl rfl (fun v17 => ?_)))
              refine hdn (al1 18 rfl ((app (E := eVerdict) Tryz.underlying71 ty60 zb60 zs60 (.t rfl) (.t rfl) (fun v18 => ?_) (hby := ⟨by (show _ ≤ 9223372036854775807); first | omega | (simp; done) | (simp; omega), by first | omega | (simp; done) | (simp; omega)⟩))))
              refine hdn (tk 19 rfl (Ev.nilCheck (.t rfl)) ?_)
              refine tk 20 rfl (fA 10 (.t rfl)) ?_
              refine al1 21 rfl ((stv ty71 SPlanPlan.l_verdicts (.t rfl) (.t rfl) ?_))
              refine hdn (ovr (bN (pN (region (co (Ev.add_i (.t rfl) (.c (v := I 1) rfl) (fun _ => by omega)) ?_)))))
              refine mv rfl (nP (nxP (X := Int × OV × OV × OV) (i3 + 1, _, _, _) ?_ ?_ (hL := (by rw [take_snoc l.us i3 hi3.1 (by omega) eRule.zero, List.map_append, List.map_append, vd_step l hi3.1]; repeat first | exact SubP.nil | refine SubP.cons (by repeat first | exact Rem.head | apply Rem.tail) ?_))))
              · try dsimp only
                omega
              · try dsimp only
                omega
            · refine (callcv (.t rfl) en25 (.cons (.t rfl) (.cons (.t rfl) .nil)) (fun w I => number_ok b4 _ _ _ w (mapAt_own (by repeat first | exact mH | apply mT | apply mA) w I) (name_num hgm _)) ?_)
              refine hdn (all [4, 15] (by kernel_rfl) (by decide) (.cons rfl ?_ (.cons rfl ?_ .nil)))
              · refine (opv (Ev.to (v' := vv.v) (Ev.ldv ty71 (.t rfl) SPlanPlan.l_verdicts) (rfl)) ?_)
                refine hdn (al1 15 rfl ((callcv (.t rfl) en25 (.cons (.t rfl) (.cons (.t rfl) .nil)) (fun w I => number_ok b5 _ _ _ w (mapAt_own (by repeat first | exact mH | apply mT | apply mA) w I) (name_num hgx _)) ?_)))
                refine hdn (tk 16 rfl (Ev.buildS (fs := _) (places := [(0, 1), (1, 1), (2, 1), (3, 1), (4, 1)]) z60 rfl Tryz.underlying60 (by kernel_rfl) (.cons (.t rfl) (.cons (.t rfl) (.cons (.t rfl) .nil))) (Fills.cons SVerdict.l_rule rfl (Fills.cons SVerdict.l_meter rfl (Fills.cons SVerdict.l_mirror rfl Fills.nil)))) ?_)
                refine al1 17 rfl ((buildSlice (E := eVerdict) Tryz.underlying71 ty60 z60 (.cons (.t rfl) .nil) rfl rfl (fun v19 => ?_)))
                refine hdn (al1 18 rfl ((app (E := eVerdict) Tryz.underlying71 ty60 zb60 zs60 (.t rfl) (.t rfl) (fun v20 => ?_) (hby := ⟨by (show _ ≤ 9223372036854775807); first | omega | (simp; done) | (simp; omega), by first | omega | (simp; done) | (simp; omega)⟩))))
                refine hdn (tk 19 rfl (Ev.nilCheck (.t rfl)) ?_)
                refine tk 20 rfl (fA 10 (.t rfl)) ?_
                refine al1 21 rfl ((stv ty71 SPlanPlan.l_verdicts (.t rfl) (.t rfl) ?_))
                refine hdn (ovr (bN (pN (region (co (Ev.add_i (.t rfl) (.c (v := I 1) rfl) (fun _ => by omega)) ?_)))))
                refine mv rfl (nP (nxP (X := Int × OV × OV × OV) (i3 + 1, _, _, _) ?_ ?_ (hL := (by rw [take_snoc l.us i3 hi3.1 (by omega) eRule.zero, List.map_append, List.map_append, vd_step l hi3.1]; repeat first | exact SubP.nil | refine SubP.cons (by repeat first | exact Rem.head | apply Rem.tail) ?_))))
                · try dsimp only
                  omega
                · try dsimp only
                  omega
              · refine (callcv (.t rfl) en25 (.cons (.t rfl) (.cons (.t rfl) .nil)) (fun w I => number_ok b5 _ _ _ w (mapAt_own (by repeat first | exact mH | apply mT | apply mA) w I) (name_num hgx _)) ?_)
                refine hdn (tk 16 rfl (Ev.buildS (fs := _) (places := [(0, 1), (1, 1), (2, 1), (3, 1), (4, 1)]) z60 rfl Tryz.underlying60 (by kernel_rfl) (.cons (.t rfl) (.cons (.t rfl) (.cons (.t rfl) .nil))) (Fills.cons SVerdict.l_rule rfl (Fills.cons SVerdict.l_meter rfl (Fills.cons SVerdict.l_mirror rfl Fills.nil)))) ?_)
                refine all [4, 17] (by kernel_rfl) (by decide) (.cons rfl ?_ (.cons rfl ?_ .nil))
                · refine (opv (Ev.to (v' := vv.v) (Ev.ldv ty71 (.t rfl) SPlanPlan.l_verdicts) (rfl)) ?_)
                  refine hdn (al1 17 rfl ((buildSlice (E := eVerdict) Tryz.underlying71 ty60 z60 (.cons (.t rfl) .nil) rfl rfl (fun v21 => ?_))))
                  refine hdn (al1 18 rfl ((app (E := eVerdict) Tryz.underlying71 ty60 zb60 zs60 (.t rfl) (.t rfl) (fun v22 => ?_) (hby := ⟨by (show _ ≤ 9223372036854775807); first | omega | (simp; done) | (simp; omega), by first | omega | (simp; done) | (simp; omega)⟩))))
                  refine hdn (tk 19 rfl (Ev.nilCheck (.t rfl)) ?_)
                  refine tk 20 rfl (fA 10 (.t rfl)) ?_
                  refine al1 21 rfl ((stv ty71 SPlanPlan.l_verdicts (.t rfl) (.t rfl) ?_))
                  refine hdn (ovr (bN (pN (region (co (Ev.add_i (.t rfl) (.c (v := I 1) rfl) (fun _ => by omega)) ?_)))))
                  refine mv rfl (nP (nxP (X := Int × OV × OV × OV) (i3 + 1, _, _, _) ?_ ?_ (hL := (by rw [take_snoc l.us i3 hi3.1 (by omega) eRule.zero, List.map_append, List.map_append, vd_step l hi3.1]; repeat first | exact SubP.nil | refine SubP.cons (by repeat first | exact Rem.head | apply Rem.tail) ?_))))
                  · try dsimp only
                    omega
                  · try dsimp only
                    omega
                · refine (buildSlice (E := eVerdict) Tryz.underlying71 ty60 z60 (.cons (.t rfl) .nil) rfl rfl (fun v23 => ?_))
                  refine hdn (al1 4 rfl ((opv (Ev.to (v' := vv.v) (Ev.ldv ty71 (.t rfl) SPlanPlan.l_verdicts) (rfl)) ?_)))
                  refine hdn (al1 18 rfl ((app (E := eVerdict) Tryz.underlying71 ty60 zb60 zs60 (.t rfl) (.t rfl) (fun v24 => ?_) (hby := ⟨by (show _ ≤ 9223372036854775807); first | omega | (simp; done) | (simp; omega), by first | omega | (simp; done) | (simp; omega)⟩))))
                  refine hdn (tk 19 rfl (Ev.nilCheck (.t rfl)) ?_)
                  refine tk 20 rfl (fA 10 (.t rfl)) ?_
                  refine al1 21 rfl ((stv ty71 SPlanPlan.l_verdicts (.t rfl) (.t rfl) ?_))
                  refine hdn (ovr (bN (pN (region (co (Ev.add_i (.t rfl) (.c (v := I 1) rfl) (fun _ => by omega)) ?_)))))
                  refine mv rfl (nP (nxP (X := Int × OV × OV × OV) (i3 + 1, _, _, _) ?_ ?_ (hL := (by rw [take_snoc l.us i3 hi3.1 (by omega) eRule.zero, List.map_append, List.map_append, vd_step l hi3.1]; repeat first | exact SubP.nil | refine SubP.cons (by repeat first | exact Rem.head | apply Rem.tail) ?_))))
                  · try dsimp only
                    omega
                  · try dsimp only
                    omega
          · try simp only [Gx.nb] at h5
            refine exit (pX (pX (bX (pN (cut (X := OV) (fun x : OV => True) (fun x : OV => [dz, (1, true, .pointer (some ⟨b1, 0, none⟩)), (4, true, .pointer (some ⟨b3, 0, none⟩)), (15, true, q.v)]) (fun x : OV => [OwnS x.v (ovE nilIf) (decL xt.1.ptr l c.default) 95, OwnS vv.v eVerdict ((List.range l.us.length).map (vdV l)) 60, OwnS q.v eMatch (mtL l) 91, MapR b5 sE iE (putN eqs (fun r : SMirrorConf => r.name) (fun k : Nat => (k : Int)) l.xs l.xs.length), MapR b4 sE iE (putN eqs (fun r : SMeterConf => r.name) (fun k : Nat => (k : Int)) l.ms l.ms.length), Seps (Seps Emp (x0.R l)) xt.2, Var b3 ePlanPlan (⟨x0.c c.default, mapV b2, xt.1.ptr, nilPtr, x, vv⟩ : SPlanPlan) 73, MapR b2 iE bE (portsP l), Var b1 eConf c 28]) ?_ (fun x hx => ?_))))))
            · have e3 : i3.toNat = l.us.length := by omega
              rw [e3, List.take_length]
              refine draw [Var b1 eConf c 28] (by kernel_rfl) ?_
              refine tk 0 rfl (Ev.move (.t rfl)) ?_
              refine tk 1 rfl (Ev.move (.t rfl)) ?_
              refine tk 2 rfl (Ev.nilCheck (.t rfl)) ?_
              refine tk 3 rfl (fA 9 (.t rfl)) ?_
              refine tk 5 rfl (Ev.move (.t rfl)) ?_
              refine tk 6 rfl (fA 5 (.t rfl)) ?_
              refine tk 7 rfl (Ev.ldv ty3 (.t rfl) SConf.l_default) ?_
              refine all [4, 8] (by kernel_rfl) (by decide) (.cons rfl ?_ (.cons rfl ?_ .nil))
              · refine (opv (Ev.to (v' := dv.v) (Ev.ldv ty70 (.t rfl) SPlanPlan.l_deciders) (rfl)) ?_)
                refine hdn (al1 8 rfl ((callv en26 (.cons (.t rfl) (.cons (.t rfl) (.cons (.c (v := I 0) rfl) .nil))) (fun w I => decider_to b3 _ xt.1.ptr _ _ w (ptsVar (E' := ePlanPlan) (by repeat first | exact mH | apply mT | apply mA) (Lens.id _) w I) rfl) ?_)))
                refine hdn (al1 9 rfl ((buildSlice (E := (ovE nilIf)) Tryz.underlying70 ty95 z95 (.cons (.t rfl) .nil) rfl rfl (fun v25 => ?_))))
                refine hdn (al1 10 rfl ((app (E := (ovE nilIf)) Tryz.underlying70 ty95 zb95 zs95 (.t rfl) (.t rfl) (fun v26 => ?_) (hby := ⟨by (show _ ≤ 9223372036854775807); first | omega | (simp; done) | (simp; omega), by first | omega | (simp; done) | (simp; omega)⟩))))
                refine hdn (tk 11 rfl (Ev.nilCheck (.t rfl)) ?_)
                refine tk 12 rfl (fA 9 (.t rfl)) ?_
                refine al1 13 rfl ((stv ty70 SPlanPlan.l_deciders (.t rfl) (.t rfl) ?_))
                refine hdn (ovr (pN (mtP (X := OV) (_) trivial)))
              · refine (callv en26 (.cons (.t rfl) (.cons (.t rfl) (.cons (.c (v := I 0) rfl) .nil))) (fun w I => decider_to b3 _ xt.1.ptr _ _ w (ptsVar (E' := ePlanPlan) (by repeat first | exact mH | apply mT | apply mA) (Lens.id _) w I) rfl) ?_)
                refine hdn (all [4, 9] (by kernel_rfl) (by decide) (.cons rfl ?_ (.cons rfl ?_ .nil)))
                · refine (opv (Ev.to (v' := dv.v) (Ev.ldv ty70 (.t rfl) SPlanPlan.l_deciders) (rfl)) ?_)
                  refine hdn (al1 9 rfl ((buildSlice (E := (ovE nilIf)) Tryz.underlying70 ty95 z95 (.cons (.t rfl) .nil) rfl rfl (fun v27 => ?_))))
                  refine hdn (al1 10 rfl ((app (E := (ovE nilIf)) Tryz.underlying70 ty95 zb95 zs95 (.t rfl) (.t rfl) (fun v28 => ?_) (hby := ⟨by (show _ ≤ 9223372036854775807); first | omega | (simp; done) | (simp; omega), by first | omega | (simp; done) | (simp; omega)⟩))))
                  refine hdn (tk 11 rfl (Ev.nilCheck (.t rfl)) ?_)
                  refine tk 12 rfl (fA 9 (.t rfl)) ?_
                  refine al1 13 rfl ((stv ty70 SPlanPlan.l_deciders (.t rfl) (.t rfl) ?_))
                  refine hdn (ovr (pN (mtP (X := OV) (_) trivial)))
                · refine (buildSlice (E := (ovE nilIf)) Tryz.underlying70 ty95 z95 (.cons (.t rfl) .nil) rfl rfl (fun v29 => ?_))
                  refine hdn (al1 4 rfl ((opv (Ev.to (v' := dv.v) (Ev.ldv ty70 (.t rfl) SPlanPlan.l_deciders) (rfl)) ?_)))
                  refine hdn (al1 10 rfl ((app (E := (ovE nilIf)) Tryz.underlying70 ty95 zb95 zs95 (.t rfl) (.t rfl) (fun v30 => ?_) (hby := ⟨by (show _ ≤ 9223372036854775807); first | omega | (simp; done) | (simp; omega), by first | omega | (simp; done) | (simp; omega)⟩))))
                  refine hdn (tk 11 rfl (Ev.nilCheck (.t rfl)) ?_)
                  refine tk 12 rfl (fA 9 (.t rfl)) ?_
                  refine al1 13 rfl ((stv ty70 SPlanPlan.l_deciders (.t rfl) (.t rfl) ?_))
                  refine hdn (ovr (pN (mtP (X := OV) (_) trivial)))
            obtain ⟨dfin, rfl⟩ : ∃ y, y = x := ⟨x, rfl⟩
            show Sat _ _ [dz, (1, true, .pointer (some ⟨b1, 0, none⟩)), (4, true, .pointer (some ⟨b3, 0, none⟩)), (15, true, q.v)] [OwnS dfin.v (ovE nilIf) (decL xt.1.ptr l c.default) 95, OwnS vv.v eVerdict ((List.range l.us.length).map (vdV l)) 60, OwnS q.v eMatch (mtL l) 91, MapR b5 sE iE (putN eqs (fun r : SMirrorConf => r.name) (fun k : Nat => (k : Int)) l.xs l.xs.length), MapR b4 sE iE (putN eqs (fun r : SMeterConf => r.name) (fun k : Nat => (k : Int)) l.ms l.ms.length), Seps (Seps Emp (x0.R l)) xt.2, Var b3 ePlanPlan (⟨x0.c c.default, mapV b2, xt.1.ptr, nilPtr, dfin, vv⟩ : SPlanPlan) 73, MapR b2 iE bE (portsP l), Var b1 eConf c 28]
            refine sg (mv rfl (mv rfl (co (Ev.nilCheck (.t rfl)) ?_)))
            refine co (fA 10 (.t rfl)) ?_
            refine co (Ev.to (v' := vv.v) (Ev.ldv ty71 (.t rfl) SPlanPlan.l_verdicts) (rfl)) ?_
            refine co (Ev.buildS (fs := _) (places := [(0, 1), (1, 1), (2, 1), (3, 1), (4, 1)]) z60 rfl Tryz.underlying60 (by kernel_rfl) (.cons (.c (v := I (-1)) rfl) (.cons (.c (v := I (-1)) rfl) (.cons (.c (v := I (-1)) rfl) .nil))) (Fills.cons SVerdict.l_rule rfl (Fills.cons SVerdict.l_meter rfl (Fills.cons SVerdict.l_mirror rfl Fills.nil)))) ?_
            refine cons (buildSlice (E := eVerdict) Tryz.underlying71 ty60 z60 (.cons (.t rfl) .nil) rfl rfl (fun v31 => ?_))
            refine cons (app (E := eVerdict) Tryz.underlying71 ty60 zb60 zs60 (.t rfl) (.t rfl) (fun v32 => ?_) (hby := ⟨by (show _ ≤ 9223372036854775807); first | omega | (simp; done) | (simp; omega), by first | omega | (simp; done) | (simp; omega)⟩))
            refine co (Ev.nilCheck (.t rfl)) ?_
            refine co (fA 10 (.t rfl)) ?_
            refine cons (stv ty71 SPlanPlan.l_verdicts (.t rfl) (.t rfl) ?_)
            refine nP (seq (sg (mv rfl (mv rfl (cons (calln (X := Nat × List Res) (CompJ (mtL l)) (compV (mtL l)) (fun x => x.2) en27 (.cons (.t rfl) .nil) (fun w I => compile_ok _ (mtL l) w (io w I)) (fun xr hxr => ?_)))))))
            refine mv rfl (co (Ev.to (v' := (ptrV xr.1).v) (Ev.extract (.t rfl) rfl) (congrArg Value.pointer (ptrO_ok xr.1 hcomp))) ?_)
            refine co (Ev.to (v' := I 0) (Ev.extract (.t rfl) rfl) (congrArg Gx.I hcomp)) ?_
            refine co (Ev.nilCheck (.t rfl)) ?_
            refine co (fA 8 (.t rfl)) ?_
            refine cons (stv ty69 SPlanPlan.l_rules (.t rfl) (.t rfl) ?_)
            refine asn rfl (nP (seq (takeSeps (r := Seps (Seps Emp (x0.R l)) xt.2) (by repeat first | exact Rem.head | apply Rem.tail) ?_)))
            refine region (mv rfl (co (Ev.neq_i (.t rfl) (.c (v := I 0) rfl)) ?_))
            refine nP (condF rfl (rfl) ?_)
            refine skip (pN (sg (mv rfl (asn rfl (co (Ev.assign (.c (v := I 0) rfl)) ?_)))))
            refine nP (ret (done rfl (.tmp rfl (.tmp rfl .nil)) (fun w I => ?_)))
            refine retNP (⟨b3, x0, b2, xt.1, xr.1, dfin, v32⟩, [Seps (Seps (Seps Emp (x0.R l)) xt.2) xr.2, Var b3 ePlanPlan (⟨x0.c c.default, mapV b2, xt.1.ptr, ptrV xr.1, dfin, v32⟩ : SPlanPlan) 73, MapR b2 iE bE (portsP l), OwnS dfin.v (ovE nilIf) (decL xt.1.ptr l c.default) 95, OwnS v32.v eVerdict (vdL l) 60]) (fun _ => ⟨⟨hmay, hok, hen⟩, fun w1 hw1 => ?_⟩) ?_ (by repeat first | exact SubP.nil | refine SubP.cons (by repeat first | exact Rem.head | apply Rem.tail) ?_) w I
            · show _ = Value.tuple #[.pointer (plO l c.default _), Gx.I (plE l c.default)]
              unfold plO plE
              rw [hmay]
              rfl
            · obtain ⟨a1, a2⟩ := Seps.A _ _ (hw1 _ List.mem_cons_self)
              obtain ⟨a3, a4⟩ := Seps.A _ _ a1
              obtain ⟨_, a5⟩ := Seps.A _ _ a3
              exact ⟨pts_of_block (hw1 _ (List.mem_cons_of_mem _ List.mem_cons_self)), ⟨IsSl.of_own (a5 (OwnS x0.o1.v iE l.ps 3) (by simp [CB.R])), IsSl.of_own (a5 (OwnS x0.o2.v eRoute l.rs 102) (by simp [CB.R])), IsSl.of_own (a5 (OwnS x0.o3.v eRule l.us 93) (by simp [CB.R])), IsSl.of_own (a5 (OwnS x0.o4.v eMeterConf l.ms 81) (by simp [CB.R])), IsSl.of_own (a5 (OwnS x0.o5.v eMirrorConf l.xs 83) (by simp [CB.R]))⟩, hw1 _ (List.mem_cons_of_mem _ (List.mem_cons_of_mem _ List.mem_cons_self)), htr w1 a4, hxr hcomp w1 a2, IsSl.of_own (hw1 _ (List.mem_cons_of_mem _ (List.mem_cons_of_mem _ (List.mem_cons_of_mem _ List.mem_cons_self)))), IsSl.of_own (hw1 _ (List.mem_cons_of_mem _ (List.mem_cons_of_mem _ (List.mem_cons_of_mem _ (List.mem_cons_of_mem _ List.mem_cons_self)))))⟩
end Go.Proofs.YtmdkmclgfgaahaaGreat
namespace Go.Proofs.YtmdkmclgfgaahaaGreat
open Go Go.Gx Go.Proofs.YtmdkmclgfgaahaaGreat.Tri
def deE (h : SHeader) (c : Int) : Int := if checkH h c = 2 then 2 else 0
def dvV (l : CL) (d n : Int) (h : SHeader) (c : Int) : SVerdict := if checkH h c = 2 then eVerdict.zero else decV l d n h
theorem vdL_len (l : CL) : (vdL l).length = l.us.length + 1 := by simp [vdL]
theorem decL_len (r : OV) (l : CL) (d : Int) : (decL r l d).length = l.us.length + 1 := by simp [decL]
theorem ruleI_lt {l : CL} {n : Int} {h : SHeader} (hm : metI l n h < 0) : ruleI l n h = l.us.length := by
  unfold ruleI
  rw [if_pos hm]
theorem ruleI_ge {l : CL} {n : Int} {h : SHeader} (hm : ¬ metI l n h < 0) : ((ruleI l n h : Nat) : Int) = metI l n h := by
  unfold ruleI
  rw [if_neg hm]
  omega
theorem decL_at (r : OV) (l : CL) (d : Int) {k : Nat} (hk : k ≤ l.us.length) (z : OV) : (decL r l d).getD k z = decO r (actI l d k).1 (actI l d k).2 := by
  unfold decL actI
  by_cases e : k < l.us.length
  · rw [if_pos e]
    simp [List.getD, List.getElem?_append, e]
  · obtain rfl : k = l.us.length := by omega
    rw [if_neg e]
    simp [List.getD, List.getElem?_append]
theorem decV_yes {l : CL} {d n : Int} {h : SHeader} (hp : l.ps.any (fun x => decide (n = x)) = true) : decV l d n h = { (vdL l).getD (ruleI l n h) eVerdict.zero with action := (actO l.rs (actI l d (ruleI l n h)).1 (actI l d (ruleI l n h)).2 h.dst).1, out := (actO l.rs (actI l d (ruleI l n h)).1 (actI l d (ruleI l n h)).2 h.dst).2 } := by
  unfold decV
  rw [if_pos hp]
theorem decV_no {l : CL} {d n : Int} {h : SHeader} (hp : l.ps.any (fun x => decide (n = x)) = false) : decV l d n h = dropV := by
  unfold decV
  rw [if_neg (by rw [hp]; exact Bool.false_ne_true)]
theorem en31 : Gx.Enters Tryz.prog 31 := Gx.Enters.mk' (by kernel_rfl)
theorem en35 : Gx.Enters Tryz.prog 35 := Gx.Enters.mk' (by kernel_rfl)
theorem z4 : (Tryz.prog.info? 4).bind (·.zero) = some (bE.val bE.zero) := by kernel_rfl
theorem en36 : Gx.Enters Tryz.prog 36 := Gx.Enters.mk' (by kernel_rfl)
set_option maxRecDepth 8000 in
theorem decide_ok (p : Pl) (l : CL) (d n : Int) (h : SHeader) (dt : List UInt8) (w : World) (hp : PlanAt w p l d) (ho : PlanOK p l d) (hd : IsSl u8E w h.data.v dt) (hl : dt.length ≤ 1152921504606846975) : Calls Tryz.prog 19 #[.pointer (some ⟨p.b, 0, none⟩), I n, eHeader.val h] w (RetV w (.tuple #[eVerdict.val (dvV l d n h dt.length), I (deE h dt.length)])) := by
  have hlens := may_lens ho.may
  refine en0 62 Tryz.func19 ?_
  refine sg (cons (box (E := eHeader) (.t rfl) (fun b1 => ?_)))
  refine cons (alloc z60 (fun b2 => ?_))
  refine co (Ev.assign (.c (v := I 0) rfl)) ?_
  refine nP (seq (sg (mv rfl (cons (callv en31 (.cons (.t rfl) .nil) (fun w I => pthere_ok p.b (p.val d) p.pm w (hp.pt.keep I.keeps) rfl) ?_)))))
  refine co (Ev.not (.t rfl)) ?_
  refine nP (condF rfl (rfl) ?_)
  refine skip (pN (seq (sg (co (Ev.ldx h ty43 (.t rfl) (Lens.id _)) ?_))))
  refine cons (callv en35 (.cons (.t rfl) .nil) (fun w I => pcheck_ok h dt w (hd.keep0 I.keeps) hl) ?_)
  refine co (Ev.eql_i (.t rfl) (.c (v := I 2) rfl)) ?_
  refine nP ?_
  first | refine condD rfl (fun h1 => ?_) (fun h1 => ?_) | refine cond rfl (fun h1 => ?_) (fun h1 => ?_)
  · refine sg (co (Ev.buildS (fs := _) (places := [(0, 1), (1, 1), (2, 1), (3, 1), (4, 1)]) z60 rfl Tryz.underlying60 (by kernel_rfl) .nil Fills.nil) ?_)
    refine cons (stv ty60 (Lens.id _) (.t rfl) (.t rfl) ?_)
    refine co (Ev.assign (.c (v := I 2) rfl)) ?_
    refine nP (ret (pR (done rfl (.cell rfl (fun w I => run_loadVar_pts ty60 (ptsVar (by repeat first | exact mH | apply mT | apply mA) (Lens.id _) w I)) (.tmp rfl .nil)) (retE ?_))))
    have e1 : deE h dt.length = 2 := by unfold deE; rw [if_pos h1]
    have e2 : dvV l d n h dt.length = eVerdict.zero := by unfold dvV; rw [if_pos h1]
    rw [e1, e2]; rfl
  · refine skip (pN (seq (sg (mv rfl (co (Ev.nilCheck (.t rfl)) ?_)))))
    refine co (fA 6 (.t rfl)) ?_
    refine co (Ev.to (v' := .map (some p.pm)) (Ev.load ty67 (.t rfl) (ptsL (fun w I => (hp).pt.keep I.keeps) SPlanPlan.l_ports)) (rfl)) ?_
    refine mv rfl (co (Ev.lookupFV (V := bE) Tryz.underlying67 Tryz.underlying3 key3 z4 (.t rfl) (.t rfl) (fun _ => (fun w I => hp.pm.keep0 I.keeps))) ?_)
    refine co (Ev.not (.t rfl)) ?_
    refine nP ?_
    first | refine condD rfl (fun h2 => ?_) (fun h2 => ?_) | refine cond rfl (fun h2 => ?_) (fun h2 => ?_)
    · have hps : l.ps.any (fun x => decide (n = x)) = false := by
        rw [← portsP_any]
        have h9 : (!(Gx.findV eqd n (portsP l)).getD false) = true := h2
        simpa using h9
      refine sg (co (Ev.buildS (fs := _) (places := [(0, 1), (1, 1), (2, 1), (3, 1), (4, 1)]) z60 rfl Tryz.underlying60 (by kernel_rfl) (.cons (.c (v := I 2) rfl) (.cons (.c (v := I (-1)) rfl) (.cons (.c (v := I (-1)) rfl) (.cons (.c (v := I (-1)) rfl) (.cons (.c (v := I (-1)) rfl) .nil))))) (Fills.cons SVerdict.l_action rfl (Fills.cons SVerdict.l_out rfl (Fills.cons SVerdict.l_rule rfl (Fills.cons SVerdict.l_meter rfl (Fills.cons SVerdict.l_mirror rfl Fills.nil)))))) ?_)
      refine cons (stv ty60 (Lens.id _) (.t rfl) (.t rfl) ?_)
      refine co (Ev.assign (.c (v := I 0) rfl)) ?_
      refine nP (ret (pR (done rfl (.cell rfl (fun w I => run_loadVar_pts ty60 (ptsVar (by repeat first | exact mH | apply mT | apply mA) (Lens.id _) w I)) (.tmp rfl .nil)) (retE ?_))))
      have e1 : deE h dt.length = 0 := by unfold deE; rw [if_neg h1]
      have e2 : dvV l d n h dt.length = decV l d n h := by unfold dvV; rw [if_neg h1]
      rw [e1, e2, decV_no hps]; rfl
    · have hps : l.ps.any (fun x => decide (n = x)) = true := by
        rw [← portsP_any]
        have h9 : (!(Gx.findV eqd n (portsP l)).getD false) = false := h2
        simpa using h9
      refine skip (pN (seq (draw' (by kernel_rfl) ?_)))
      refine tk 0 rfl (Ev.move (.t rfl)) ?_
      refine tk 1 rfl (Ev.nilCheck (.t rfl)) ?_
      refine tk 2 rfl (fA 8 (.t rfl)) ?_
      refine tk 3 rfl (Ev.to (v' := .pointer (some ⟨p.rb, 0, none⟩)) (Ev.load ty69 (.t rfl) (ptsL (fun w I => (hp).pt.keep I.keeps) SPlanPlan.l_rules)) (rfl)) ?_
      refine tk 4 rfl (Ev.move (.t rfl)) ?_
      refine tk 5 rfl (Ev.ldx h ty43 (.t rfl) (Lens.id _)) ?_
      refine al1 6 rfl ((callv en36 (.cons (.t rfl) (.cons (.t rfl) (.cons (.t rfl) .nil))) (fun w I => first_ok p.rb (mtL l) n h w (hp.ru.keep I.keeps)) ?_))
      refine hdn (tk 7 rfl (Ev.to (v' := I (metI l n h)) (Ev.assign (.t rfl)) (rfl)) ?_)
      refine ovr (pN (cut (X := Int) (fun x : Int => (x = ((ruleI l n h : Nat) : Int))) (fun x : Int => [dz, (0, true, .pointer (some ⟨p.b, 0, none⟩)), (5, true, .pointer (some ⟨b1, 0, none⟩)), (6, true, .pointer (some ⟨b2, 0, none⟩)), (7, true, I 0), (8, true, I x)]) (fun x : Int => [Var b2 eVerdict eVerdict.zero 60, Var b1 eHeader h 43]) ?_ (fun x hx => ?_)))
      · refine sg (mv rfl (co (Ev.lss_i (.t rfl) (.c (v := I 0) rfl)) ?_))
        refine nP ?_
        first | refine condD rfl (fun h3 => ?_) (fun h3 => ?_) | refine cond rfl (fun h3 => ?_) (fun h3 => ?_)
        · try simp only [Gx.nb] at h3
          refine region (mv rfl (co (Ev.nilCheck (.t rfl)) ?_))
          refine co (fA 10 (.t rfl)) ?_
          refine co (Ev.to (v' := p.vv.v) (Ev.load ty71 (.t rfl) (ptsL (fun w I => (hp).pt.keep I.keeps) SPlanPlan.l_verdicts)) (rfl)) ?_
          refine co (Ev.len Tryz.underlying71 (.t rfl) (fun w I => hp.vs.keep0 I.keeps)) ?_
          refine co (Ev.sub_i (.t rfl) (.c (v := I 1) rfl) (fun _ => by rw [vdL_len]; omega)) ?_
          refine asn rfl (nP (mt (X := Int) (_) ?_))
          · try dsimp only
            first | (rw [ruleI_lt h3, vdL_len]; omega) | exact (ruleI_ge h3).symm
        · try simp only [Gx.nb] at h3
          refine skip (pN (mt (X := Int) (_) ?_))
          · try dsimp only
            first | (rw [ruleI_lt h3, vdL_len]; omega) | exact (ruleI_ge h3).symm
      obtain ⟨k, rfl⟩ : ∃ y, y = x := ⟨x, rfl⟩
      have hk : k = ((ruleI l n h : Nat) : Int) := hx
      clear hx
      show Sat _ _ [dz, (0, true, .pointer (some ⟨p.b, 0, none⟩)), (5, true, .pointer (some ⟨b1, 0, none⟩)), (6, true, .pointer (some ⟨b2, 0, none⟩)), (7, true, I 0), (8, true, I k)] [Var b2 eVerdict eVerdict.zero 60, Var b1 eHeader h 43]
      obtain ⟨r, hr⟩ : ∃ r, ruleI l n h = r := ⟨_, rfl⟩
      have hrl : r ≤ l.us.length := by rw [← hr]; exact ruleI_le l n h
      have er : ((r : Nat) : Int).toNat = r := by omega
      have hvl := vdL_len l
      have hdl := decL_len p.tr.ptr l d
      rw [hr] at hk
      subst hk
      refine sg (mv rfl (co (Ev.nilCheck (.t rfl)) ?_))
      refine co (fA 10 (.t rfl)) ?_
      refine co (Ev.to (v' := p.vv.v) (Ev.load ty71 (.t rfl) (ptsL (fun w I => (hp).pt.keep I.keeps) SPlanPlan.l_verdicts)) (rfl)) ?_
      refine mv rfl (co (Ev.indexAddr Tryz.underlying71 ty60 (.t rfl) (.t rfl) (fun w I => hp.vs.keep0 I.keeps) (fun _ => by omega)) ?_)
      refine co (Ev.to (v' := eVerdict.val ((vdL l).getD r eVerdict.zero)) (Ev.loadS0 ty60 (.t rfl) (fun w I => hp.vs.keep0 I.keeps) (fun _ => by omega)) (by rw [er])) ?_
      refine cons (alloc z60 (fun b3 => ?_))
      refine cons (stv ty60 (Lens.id _) (.t rfl) (.t rfl) ?_)
      refine nP (sg (mv rfl (co (Ev.nilCheck (.t rfl)) ?_)))
      refine co (fA 9 (.t rfl)) ?_
      refine co (Ev.to (v' := p.dv.v) (Ev.load ty70 (.t rfl) (ptsL (fun w I => (hp).pt.keep I.keeps) SPlanPlan.l_deciders)) (rfl)) ?_
      refine mv rfl (co (Ev.indexAddr Tryz.underlying70 ty95 (.t rfl) (.t rfl) (fun w I => hp.ds.keep0 I.keeps) (fun _ => by omega)) ?_)
      refine co (Ev.to (v' := (decO p.tr.ptr (actI l d r).1 (actI l d r).2).v) (Ev.loadS0 ty95 (.t rfl) (fun w I => hp.ds.keep0 I.keeps) (fun _ => by omega)) (congrArg OV.v (by rw [er]; exact decL_at p.tr.ptr l d hrl _))) ?_
      refine cons (callIf (.t rfl) (.cons (.t rfl) .nil) (fun w I => decide_if p.tr l _ _ b1 h w (ptsVar (E' := eHeader) (by repeat first | exact mH | apply mT | apply mA) (Lens.id _) w I) (hp.tr.keep I.keeps) ho.ok (ho.route h.dst)) ?_)
      refine mv rfl (co (Ev.extract (.t rfl) rfl) (co (Ev.extract (.t rfl) rfl) (co (fA 0 (.t rfl)) ?_)))
      refine cons (stv ty3 SVerdict.l_action (.t rfl) (.t rfl) ?_)
      refine co (fA 1 (.t rfl)) ?_
      refine cons (stv ty3 SVerdict.l_out (.t rfl) (.t rfl) ?_)
      refine nP (sg (co (Ev.ldv ty60 (.t rfl) (Lens.id _)) ?_))
      refine cons (stv ty60 (Lens.id _) (.t rfl) (.t rfl) ?_)
      refine co (Ev.assign (.c (v := I 0) rfl)) ?_
      refine nP (ret (done rfl (.cell rfl (fun w I => run_loadVar_pts ty60 (ptsVar (by repeat first | exact mH | apply mT | apply mA) (Lens.id _) w I)) (.tmp rfl .nil)) (retE ?_)))
      have e1 : deE h dt.length = 0 := by unfold deE; rw [if_neg h1]
      have e2 : dvV l d n h dt.length = decV l d n h := by unfold dvV; rw [if_neg h1]
      rw [e1, e2, decV_yes hps, hr]; rfl
end Go.Proofs.YtmdkmclgfgaahaaGreat
namespace Go.Proofs.YtmdkmclgfgaahaaGreat
open Go Go.Gx Go.Proofs.YtmdkmclgfgaahaaGreat.Tri
theorem dag {K : Ctx} {F : Fr} {L Lq : List Res} {Q : Exit → Act → World → Prop} {P : Program} {ops : Array Oper} {fuel : Nat} {listed : Array Bool} (h : ∀ H : Nat → Array Bool → Act → World → Prop, H = (fun fu li => heldX P K ops Q Lq fu li) → Sat K (H fuel listed) F L) : Sat K (heldX P K ops Q Lq fuel listed) F L := h _ rfl
theorem unH {K : Ctx} {F : Fr} {L Lq : List Res} {Q : Exit → Act → World → Prop} {P : Program} {ops : Array Oper} {fuel : Nat} {listed : Array Bool} {H : Nat → Array Bool → Act → World → Prop} (hH : H = (fun fu li => heldX P K ops Q Lq fu li)) (h : Sat K (heldX P K ops Q Lq fuel listed) F L) : Sat K (H fuel listed) F L := by
  subst hH
  exact h
theorem goD {K : Ctx} {F F' : Fr} {L L' Lq : List Res} {Q : Exit → Act → World → Prop} {P : Program} {ops : Array Oper} {fuel : Nat} {listed listed' : Array Bool} {H : Nat → Array Bool → Act → World → Prop} (hH : H = (fun fu li => heldX P K ops Q Lq fu li)) (e : listed = listed') (hF : Sub F F') (hL : SubP L' L) (h : Sat K (H fuel listed') F' L') : Sat K (heldX P K ops Q Lq fuel listed) F L := by
  subst e
  subst hH
  exact arr hL (Sat.sub hF (List.Sublist.refl _) h)
def fourP (a b : UInt8) (n : Int) : SPrefix := ⟨⟨false, ((Vector.replicate 16 (0 : UInt8)).set 0 a).set 1 b⟩, n⟩
def exWeb : SMatch := { eMatch.zero with asks := 40, proto := 6, dstPort := ⟨80, 80⟩ }
def exR1 : SRoute := ⟨fourP 10 0 8, 2⟩
def exR2 : SRoute := ⟨fourP 10 1 16, 3⟩
def exN2 : SMatch := { eMatch.zero with asks := 2, src := fourP 10 9 16 }
def exN3 : SMatch := { eMatch.zero with asks := 1, in_ := ⟨2, 2⟩ }
def exU1 : SRule := { eRule.zero with name := ⟨#[119, 101, 98]⟩, match_ := exWeb, action := 3, out := 3, meter := ⟨#[115, 108, 111, 119]⟩ }
def exU2 : SRule := { eRule.zero with name := ⟨#[110, 111]⟩, match_ := exN2, action := 4 }
def exU3 : SRule := { eRule.zero with name := ⟨#[108, 111, 111, 107]⟩, match_ := exN3, action := 1, mirror := ⟨#[116, 97, 112]⟩ }
def exM1 : SMeterConf := ⟨⟨#[115, 108, 111, 119]⟩, ⟨1, 1, 1⟩⟩
def exX1 : SMirrorConf := ⟨⟨#[116, 97, 112]⟩, 1, 2⟩
def exL : CL := ⟨[1, 2, 3], [exR1, exR2], [exU1, exU2, exU3], [exM1], [exX1]⟩
def pktH (pr src : UInt8) (to : Vector UInt8 4) (port : UInt16) : SHeader := { eHeader.zero with proto := pr, dstPort := port, src := ⟨false, ((((Vector.replicate 16 (0 : UInt8)).set 0 10).set 1 src).set 2 1).set 3 1⟩, dst := ⟨false, ((((Vector.replicate 16 (0 : UInt8)).set 0 to[0]).set 1 to[1]).set 2 to[2]).set 3 to[3]⟩ }
theorem exL_may : mayB exL 1 = true := by decide +kernel
theorem names_of {l : CL} (h : l.us.all (fun x => decide (x.name.size ≤ 16)) && l.ms.all (fun x => decide (x.name.size ≤ 16)) && l.xs.all (fun x => decide (x.name.size ≤ 16)) = true) : l.Names := by
  simp only [Bool.and_eq_true, List.all_eq_true, decide_eq_true_iff] at h
  exact ⟨fun x hx => by have := h.1.1 x hx; omega, fun x hx => by have := h.1.2 x hx; omega, fun x hx => by have := h.2 x hx; omega⟩
theorem exL_names : exL.Names := names_of (by decide +kernel)
theorem exL_n : exL.n ≤ 4611686018427387904 := by decide +kernel
theorem z36 : (Tryz.prog.info? 36).bind (·.zero) = some ((arrE 16 u8E).val (arrE 16 u8E).zero) := by kernel_rfl
theorem four_ok (a b : UInt8) (n : Int) (w : World) : Calls Tryz.prog 34 #[U8 a, U8 b, I n] w (RetV w (ePrefix.val (fourP a b n))) := by
  refine en0 13 Tryz.func34 ?_
  refine sg (cons (alloc z89 (fun b1 => ?_)))
  refine nP (sg (mv rfl (mv rfl (co (Ev.buildA z36 Tryz.underlying36 ty5 (.cons (.t rfl) (.cons (.t rfl) .nil)) (Fills.cons (lArr u8E 0 (by decide)) rfl (Fills.cons (lArr u8E 1 (by decide)) rfl Fills.nil))) ?_))))
  refine co (Ev.buildS (fs := _) (places := [(0, 1), (1, 16)]) z38 rfl Tryz.underlying38 (by kernel_rfl) (.cons (.t rfl) .nil) (Fills.cons SAddr.l_b rfl Fills.nil)) ?_
  refine mv rfl (co (Ev.buildS (fs := _) (places := [(0, 17), (17, 1)]) z89 rfl Tryz.underlying89 (by kernel_rfl) (.cons (.t rfl) (.cons (.t rfl) .nil)) (Fills.cons SPrefix.l_addr rfl (Fills.cons SPrefix.l_bits rfl Fills.nil))) ?_)
  refine cons (stv ty89 (Lens.id _) (.t rfl) (.t rfl) ?_)
  refine nP (ret (done rfl (.cell rfl (fun w I => run_loadVar_pts ty89 (ptsVar (by repeat first | exact mH | apply mT | apply mA) (Lens.id _) w I)) .nil) (retE ?_)))
  rfl
theorem z43 : (Tryz.prog.info? 43).bind (·.zero) = some (eHeader.val eHeader.zero) := by kernel_rfl
theorem packet_ok (pr src : UInt8) (to : Vector UInt8 4) (port : UInt16) (w : World) : Calls Tryz.prog 20 #[U8 pr, U8 src, (arrE 4 u8E).val to, U16 port] w (RetV w (eHeader.val (pktH pr src to port))) := by
  refine en0 29 Tryz.func20 ?_
  refine sg (cons (box (E := (arrE 4 u8E)) (.t rfl) (fun b1 => ?_)))
  refine cons (alloc z43 (fun b2 => ?_))
  refine nP (sg (mv rfl (mv rfl (co (Ev.buildS (fs := _) (places := [(0, 17), (17, 17), (34, 1), (35, 1), (36, 1), (37, 1), (38, 1), (39, 1), (40, 1), (41, 1), (42, 1)]) z43 rfl Tryz.underlying43 (by kernel_rfl) (.cons (.t rfl) (.cons (.t rfl) .nil)) (Fills.cons SHeader.l_proto rfl (Fills.cons SHeader.l_dstPort rfl Fills.nil))) ?_))))
  refine cons (alloc z43 (fun b3 => ?_))
  refine cons (stv ty43 (Lens.id _) (.t rfl) (.t rfl) ?_)
  refine nP (sg (mv rfl (co (Ev.buildA z36 Tryz.underlying36 ty5 (.cons (.c (v := U8 10) rfl) (.cons (.t rfl) (.cons (.c (v := U8 1) rfl) (.cons (.c (v := U8 1) rfl) .nil)))) (Fills.cons (lArr u8E 0 (by decide)) rfl (Fills.cons (lArr u8E 1 (by decide)) rfl (Fills.cons (lArr u8E 2 (by decide)) rfl (Fills.cons (lArr u8E 3 (by decide)) rfl Fills.nil))))) ?_)))
  refine co (fA 0 (.t rfl)) ?_
  refine co (fA 1 (.t rfl)) ?_
  refine cons (stv ty36 (Lens.comp SHeader.l_src SAddr.l_b) (.t rfl) (.t rfl) ?_)
  refine nP (sg (co (Ev.indexAddrA0 Tryz.underlying64 ty5 (.t rfl) (.c (v := I 0) rfl) (fun _ => by omega)) ?_))
  refine co (Ev.ldv ty5 (.t rfl) (lArr (n := 4) u8E _ (by omega))) ?_
  refine co (Ev.indexAddrA0 Tryz.underlying64 ty5 (.t rfl) (.c (v := I 1) rfl) (fun _ => by omega)) ?_
  refine co (Ev.ldv ty5 (.t rfl) (lArr (n := 4) u8E _ (by omega))) ?_
  refine co (Ev.indexAddrA0 Tryz.underlying64 ty5 (.t rfl) (.c (v := I 2) rfl) (fun _ => by omega)) ?_
  refine co (Ev.ldv ty5 (.t rfl) (lArr (n := 4) u8E _ (by omega))) ?_
  refine co (Ev.indexAddrA0 Tryz.underlying64 ty5 (.t rfl) (.c (v := I 3) rfl) (fun _ => by omega)) ?_
  refine co (Ev.ldv ty5 (.t rfl) (lArr (n := 4) u8E _ (by omega))) ?_
  refine co (Ev.buildA z36 Tryz.underlying36 ty5 (.cons (.t rfl) (.cons (.t rfl) (.cons (.t rfl) (.cons (.t rfl) .nil)))) (Fills.cons (lArr u8E 0 (by decide)) rfl (Fills.cons (lArr u8E 1 (by decide)) rfl (Fills.cons (lArr u8E 2 (by decide)) rfl (Fills.cons (lArr u8E 3 (by decide)) rfl Fills.nil))))) ?_
  refine co (fA 17 (.t rfl)) ?_
  refine co (fA 1 (.t rfl)) ?_
  refine cons (stv ty36 (Lens.comp SHeader.l_dst SAddr.l_b) (.t rfl) (.t rfl) ?_)
  refine nP (sg (co (Ev.ldv ty43 (.t rfl) (Lens.id _)) ?_))
  refine cons (stv ty43 (Lens.id _) (.t rfl) (.t rfl) ?_)
  refine nP (ret (done rfl (.cell rfl (fun w I => run_loadVar_pts ty43 (ptsVar (by repeat first | exact mH | apply mT | apply mA) (Lens.id _) w I)) .nil) (retE ?_)))
  rfl
theorem en34 : Gx.Enters Tryz.prog 34 := Gx.Enters.mk' (by kernel_rfl)
theorem z79 : (Tryz.prog.info? 79).bind (·.zero) = some (eBucket.val eBucket.zero) := by kernel_rfl
set_option maxHeartbeats 4000000 in
theorem example_ok (w : World) : Calls Tryz.prog 18 #[] w (RetN w (fun _ : CB => True) (fun x => eConf.val (x.c 1)) (fun x => x.R exL)) := by
  refine en0 25 Tryz.func18 ?_
  refine sg (cons (alloc z28 (fun b1 => ?_)))
  refine nP (sg (co (Ev.buildS (fs := _) (places := [(0, 1), (1, 1)]) z87 rfl Tryz.underlying87 (by kernel_rfl) (.cons (.c (v := U16 80) rfl) (.cons (.c (v := U16 80) rfl) .nil)) (Fills.cons SSpan.l_from_ rfl (Fills.cons SSpan.l_to_ rfl Fills.nil))) ?_))
  refine co (Ev.buildS (fs := _) (places := [(0, 1), (1, 2), (3, 18), (21, 18), (39, 1), (40, 2), (42, 2)]) z91 rfl Tryz.underlying91 (by kernel_rfl) (.cons (.c (v := U8 40) rfl) (.cons (.c (v := U8 6) rfl) (.cons (.t rfl) .nil))) (Fills.cons SMatch.l_asks rfl (Fills.cons SMatch.l_proto rfl (Fills.cons SMatch.l_dstPort rfl Fills.nil)))) ?_
  refine cons (alloc z91 (fun b2 => ?_))
  refine cons (stv ty91 (Lens.id _) (.t rfl) (.t rfl) ?_)
  refine nP (seq (draw [Var b2 eMatch exWeb 91] (by kernel_rfl) ?_))
  refine dag (fun H hH => ?_)
  have st2_0 : ∀ (o0 : OV) (o5 : OV) (o14 : OV) (o17 : OV) (o19 : OV), Sat (⟨25, w, Nope⟩ : Ctx) (H 0 #[true, true, true, true, true, true, true, true, true, true, true, true, true, true, true, true, true, true, true, true, true, true]) [dz, (0, true, .pointer (some ⟨b1, 0, none⟩)), (1, true, .pointer (some ⟨b2, 0, none⟩))] [OwnS o0.v iE [1, 2, 3] 3, OwnS o5.v eRoute [exR1, exR2] 102, OwnS o14.v eRule [exU1, exU2, exU3] 93, OwnS o17.v eMeterConf [exM1] 81, OwnS o19.v eMirrorConf [exX1] 83, Var b2 eMatch exWeb 91, Var b1 eConf (⟨o0, o5, o14, o17, o19, 1⟩ : SConf) 28] := by
    intro o0 o5 o14 o17 o19
    refine unH hH ?_
    refine ovr (pN (ret (done rfl (.cell rfl (fun w I => run_loadVar_pts ty28 (ptsVar (by repeat first | exact mH | apply mT | apply mA) (Lens.id _) w I)) .nil) (fun w I => ?_))))
    exact retNP (⟨o0, o5, o14, o17, o19⟩ : CB) trivial rfl (by repeat first | exact SubP.nil | refine SubP.cons (by repeat first | exact Rem.head | apply Rem.tail) ?_) w I
  have st2_1 : ∀ (o0 : OV) (o5 : OV) (o14 : OV) (o17 : OV) (o19 : OV), Sat (⟨25, w, Nope⟩ : Ctx) (H 1 #[true, true, true, true, true, true, true, true, true, true, true, true, true, true, true, true, true, true, true, true, true, false]) [dz, (0, true, .pointer (some ⟨b1, 0, none⟩)), (1, true, .pointer (some ⟨b2, 0, none⟩)), (24, true, eConf.val ⟨o0, o5, o14, o17, o19, 1⟩)] [OwnS o0.v iE [1, 2, 3] 3, OwnS o5.v eRoute [exR1, exR2] 102, OwnS o14.v eRule [exU1, exU2, exU3] 93, OwnS o17.v eMeterConf [exM1] 81, OwnS o19.v eMirrorConf [exX1] 83, Var b2 eMatch exWeb 91, Var b1 eConf eConf.zero 28] := by
    intro o0 o5 o14 o17 o19
    refine unH hH ?_
    refine al1 21 rfl ((stv ty28 (Lens.id _) (.t rfl) (.t rfl) ?_))
    refine hdn ?_
    exact goD hH (by kernel_rfl) (by repeat first | exact Sub.nil | refine Sub.cons rfl ?_) (by repeat first | exact SubP.nil | refine SubP.cons (by repeat first | exact Rem.head | apply Rem.tail) ?_) (st2_0 o0 o5 o14 o17 o19)
  have st2_2 : ∀ (o0 : OV) (o5 : OV) (o14 : OV) (o17 : OV), Sat (⟨25, w, Nope⟩ : Ctx) (H 3 #[true, true, true, true, true, true, true, true, true, true, true, true, true, true, true, true, true, true, true, false, false, false]) [dz, (0, true, .pointer (some ⟨b1, 0, none⟩)), (1, true, .pointer (some ⟨b2, 0, none⟩)), (4, true, o0.v), (9, true, o5.v), (18, true, o14.v), (21, true, o17.v), (22, true, eMirrorConf.val exX1)] [OwnS o0.v iE [1, 2, 3] 3, OwnS o5.v eRoute [exR1, exR2] 102, OwnS o14.v eRule [exU1, exU2, exU3] 93, OwnS o17.v eMeterConf [exM1] 81, Var b2 eMatch exWeb 91, Var b1 eConf eConf.zero 28] := by
    intro o0 o5 o14 o17
    refine unH hH ?_
    refine al1 19 rfl ((buildSlice (E := eMirrorConf) Tryz.underlying26 ty83 z83 (.cons (.t rfl) .nil) rfl rfl (fun v3 => ?_)))
    refine hdn (tk 20 rfl (Ev.buildS (fs := _) (places := [(0, 1), (1, 1), (2, 1), (3, 1), (4, 1), (5, 1)]) z28 rfl Tryz.underlying28 (by kernel_rfl) (.cons (.t rfl) (.cons (.t rfl) (.cons (.t rfl) (.cons (.t rfl) (.cons (.t rfl) (.cons (.c (v := I 1) rfl) .nil)))))) (Fills.cons SConf.l_ports rfl (Fills.cons SConf.l_routes rfl (Fills.cons SConf.l_rules rfl (Fills.cons SConf.l_meters rfl (Fills.cons SConf.l_mirrors rfl (Fills.cons SConf.l_default rfl Fills.nil))))))) ?_)
    exact goD hH (by kernel_rfl) (by repeat first | exact Sub.nil | refine Sub.cons rfl ?_) (SubP.cons (Rem.tail Rem.head) (SubP.cons (Rem.tail Rem.head) (SubP.cons (Rem.tail Rem.head) (SubP.cons (Rem.tail Rem.head) (SubP.cons Rem.head (SubP.of sR)))))) (st2_1 o0 o5 o14 o17 v3)
  have st2_3 : ∀ (o0 : OV) (o5 : OV) (o14 : OV) (o19 : OV), Sat (⟨25, w, Nope⟩ : Ctx) (H 3 #[true, true, true, true, true, true, true, true, true, true, true, true, true, true, true, true, true, false, true, true, false, false]) [dz, (0, true, .pointer (some ⟨b1, 0, none⟩)), (1, true, .pointer (some ⟨b2, 0, none⟩)), (4, true, o0.v), (9, true, o5.v), (18, true, o14.v), (20, true, eMeterConf.val exM1), (23, true, o19.v)] [OwnS o0.v iE [1, 2, 3] 3, OwnS o5.v eRoute [exR1, exR2] 102, OwnS o14.v eRule [exU1, exU2, exU3] 93, OwnS o19.v eMirrorConf [exX1] 83, Var b2 eMatch exWeb 91, Var b1 eConf eConf.zero 28] := by
    intro o0 o5 o14 o19
    refine unH hH ?_
    refine al1 17 rfl ((buildSlice (E := eMeterConf) Tryz.underlying25 ty81 z81 (.cons (.t rfl) .nil) rfl rfl (fun v4 => ?_)))
    refine hdn (tk 20 rfl (Ev.buildS (fs := _) (places := [(0, 1), (1, 1), (2, 1), (3, 1), (4, 1), (5, 1)]) z28 rfl Tryz.underlying28 (by kernel_rfl) (.cons (.t rfl) (.cons (.t rfl) (.cons (.t rfl) (.cons (.t rfl) (.cons (.t rfl) (.cons (.c (v := I 1) rfl) .nil)))))) (Fills.cons SConf.l_ports rfl (Fills.cons SConf.l_routes rfl (Fills.cons SConf.l_rules rfl (Fills.cons SConf.l_meters rfl (Fills.cons SConf.l_mirrors rfl (Fills.cons SConf.l_default rfl Fills.nil))))))) ?_)
    exact goD hH (by kernel_rfl) (by repeat first | exact Sub.nil | refine Sub.cons rfl ?_) (SubP.cons (Rem.tail Rem.head) (SubP.cons (Rem.tail Rem.head) (SubP.cons (Rem.tail Rem.head) (SubP.cons Rem.head (SubP.cons Rem.head (SubP.of sR)))))) (st2_1 o0 o5 o14 v4 o19)
  have st2_4 : ∀ (o0 : OV) (o5 : OV) (o17 : OV) (o19 : OV), Sat (⟨25, w, Nope⟩ : Ctx) (H 3 #[true, true, true, true, true, true, true, true, true, true, true, true, true, true, false, true, true, true, true, true, false, false]) [dz, (0, true, .pointer (some ⟨b1, 0, none⟩)), (1, true, .pointer (some ⟨b2, 0, none⟩)), (4, true, o0.v), (9, true, o5.v), (11, true, eRule.val exU1), (14, true, eRule.val exU2), (17, true, eRule.val exU3), (21, true, o17.v), (23, true, o19.v)] [OwnS o0.v iE [1, 2, 3] 3, OwnS o5.v eRoute [exR1, exR2] 102, OwnS o17.v eMeterConf [exM1] 81, OwnS o19.v eMirrorConf [exX1] 83, Var b2 eMatch exWeb 91, Var b1 eConf eConf.zero 28] := by
    intro o0 o5 o17 o19
    refine unH hH ?_
    refine al1 14 rfl ((buildSlice (E := eRule) Tryz.underlying24 ty93 z93 (.cons (.t rfl) (.cons (.t rfl) (.cons (.t rfl) .nil))) rfl rfl (fun v5 => ?_)))
    refine hdn (tk 20 rfl (Ev.buildS (fs := _) (places := [(0, 1), (1, 1), (2, 1), (3, 1), (4, 1), (5, 1)]) z28 rfl Tryz.underlying28 (by kernel_rfl) (.cons (.t rfl) (.cons (.t rfl) (.cons (.t rfl) (.cons (.t rfl) (.cons (.t rfl) (.cons (.c (v := I 1) rfl) .nil)))))) (Fills.cons SConf.l_ports rfl (Fills.cons SConf.l_routes rfl (Fills.cons SConf.l_rules rfl (Fills.cons SConf.l_meters rfl (Fills.cons SConf.l_mirrors rfl (Fills.cons SConf.l_default rfl Fills.nil))))))) ?_)
    exact goD hH (by kernel_rfl) (by repeat first | exact Sub.nil | refine Sub.cons rfl ?_) (SubP.cons (Rem.tail Rem.head) (SubP.cons (Rem.tail Rem.head) (SubP.cons Rem.head (SubP.cons Rem.head (SubP.cons Rem.head (SubP.of sR)))))) (st2_1 o0 o5 v5 o17 o19)
  have st2_5 : ∀ (o0 : OV) (o14 : OV) (o17 : OV) (o19 : OV), Sat (⟨25, w, Nope⟩ : Ctx) (H 3 #[true, true, true, true, true, false, true, true, true, true, true, true, true, true, true, true, true, true, true, true, false, false]) [dz, (0, true, .pointer (some ⟨b1, 0, none⟩)), (1, true, .pointer (some ⟨b2, 0, none⟩)), (4, true, o0.v), (6, true, eRoute.val exR1), (8, true, eRoute.val exR2), (18, true, o14.v), (21, true, o17.v), (23, true, o19.v)] [OwnS o0.v iE [1, 2, 3] 3, OwnS o14.v eRule [exU1, exU2, exU3] 93, OwnS o17.v eMeterConf [exM1] 81, OwnS o19.v eMirrorConf [exX1] 83, Var b2 eMatch exWeb 91, Var b1 eConf eConf.zero 28] := by
    intro o0 o14 o17 o19
    refine unH hH ?_
    refine al1 5 rfl ((buildSlice (E := eRoute) Tryz.underlying23 ty102 z102 (.cons (.t rfl) (.cons (.t rfl) .nil)) rfl rfl (fun v6 => ?_)))
    refine hdn (tk 20 rfl (Ev.buildS (fs := _) (places := [(0, 1), (1, 1), (2, 1), (3, 1), (4, 1), (5, 1)]) z28 rfl Tryz.underlying28 (by kernel_rfl) (.cons (.t rfl) (.cons (.t rfl) (.cons (.t rfl) (.cons (.t rfl) (.cons (.t rfl) (.cons (.c (v := I 1) rfl) .nil)))))) (Fills.cons SConf.l_ports rfl (Fills.cons SConf.l_routes rfl (Fills.cons SConf.l_rules rfl (Fills.cons SConf.l_meters rfl (Fills.cons SConf.l_mirrors rfl (Fills.cons SConf.l_default rfl Fills.nil))))))) ?_)
    exact goD hH (by kernel_rfl) (by repeat first | exact Sub.nil | refine Sub.cons rfl ?_) (SubP.cons (Rem.tail Rem.head) (SubP.cons Rem.head (SubP.cons Rem.head (SubP.cons Rem.head (SubP.cons Rem.head (SubP.of sR)))))) (st2_1 o0 v6 o14 o17 o19)
  have st2_6 : ∀ (o5 : OV) (o14 : OV) (o17 : OV) (o19 : OV), Sat (⟨25, w, Nope⟩ : Ctx) (H 3 #[false, true, true, true, true, true, true, true, true, true, true, true, true, true, true, true, true, true, true, true, false, false]) [dz, (0, true, .pointer (some ⟨b1, 0, none⟩)), (1, true, .pointer (some ⟨b2, 0, none⟩)), (9, true, o5.v), (18, true, o14.v), (21, true, o17.v), (23, true, o19.v)] [OwnS o5.v eRoute [exR1, exR2] 102, OwnS o14.v eRule [exU1, exU2, exU3] 93, OwnS o17.v eMeterConf [exM1] 81, OwnS o19.v eMirrorConf [exX1] 83, Var b2 eMatch exWeb 91, Var b1 eConf eConf.zero 28] := by
    intro o5 o14 o17 o19
    refine unH hH ?_
    refine al1 0 rfl ((buildSlice (E := iE) Tryz.underlying22 ty3 z3 (.cons (.c (v := I 1) rfl) (.cons (.c (v := I 2) rfl) (.cons (.c (v := I 3) rfl) .nil))) rfl rfl (fun v7 => ?_)))
    refine hdn (tk 20 rfl (Ev.buildS (fs := _) (places := [(0, 1), (1, 1), (2, 1), (3, 1), (4, 1), (5, 1)]) z28 rfl Tryz.underlying28 (by kernel_rfl) (.cons (.t rfl) (.cons (.t rfl) (.cons (.t rfl) (.cons (.t rfl) (.cons (.t rfl) (.cons (.c (v := I 1) rfl) .nil)))))) (Fills.cons SConf.l_ports rfl (Fills.cons SConf.l_routes rfl (Fills.cons SConf.l_rules rfl (Fills.cons SConf.l_meters rfl (Fills.cons SConf.l_mirrors rfl (Fills.cons SConf.l_default rfl Fills.nil))))))) ?_)
    exact goD hH (by kernel_rfl) (by repeat first | exact Sub.nil | refine Sub.cons rfl ?_) (SubP.cons Rem.head (SubP.cons Rem.head (SubP.cons Rem.head (SubP.cons Rem.head (SubP.cons Rem.head (SubP.of sR)))))) (st2_1 v7 o5 o14 o17 o19)
  have st2_7 : ∀ (o0 : OV) (o5 : OV) (o14 : OV), Sat (⟨25, w, Nope⟩ : Ctx) (H 4 #[true, true, true, true, true, true, true, true, true, true, true, true, true, true, true, true, true, false, true, false, false, false]) [dz, (0, true, .pointer (some ⟨b1, 0, none⟩)), (1, true, .pointer (some ⟨b2, 0, none⟩)), (4, true, o0.v), (9, true, o5.v), (18, true, o14.v), (20, true, eMeterConf.val exM1), (22, true, eMirrorConf.val exX1)] [OwnS o0.v iE [1, 2, 3] 3, OwnS o5.v eRoute [exR1, exR2] 102, OwnS o14.v eRule [exU1, exU2, exU3] 93, Var b2 eMatch exWeb 91, Var b1 eConf eConf.zero 28] := by
    intro o0 o5 o14
    refine unH hH ?_
    refine all [17, 19] (by kernel_rfl) (by decide) (.cons rfl ?_ (.cons rfl ?_ .nil))
    · refine (buildSlice (E := eMeterConf) Tryz.underlying25 ty81 z81 (.cons (.t rfl) .nil) rfl rfl (fun v8 => ?_))
      refine hdn ?_
      exact goD hH (by kernel_rfl) (by repeat first | exact Sub.nil | refine Sub.cons rfl ?_) (SubP.cons (Rem.tail Rem.head) (SubP.cons (Rem.tail Rem.head) (SubP.cons (Rem.tail Rem.head) (SubP.cons Rem.head (SubP.of sR))))) (st2_2 o0 o5 o14 v8)
    · refine (buildSlice (E := eMirrorConf) Tryz.underlying26 ty83 z83 (.cons (.t rfl) .nil) rfl rfl (fun v9 => ?_))
      refine hdn ?_
      exact goD hH (by kernel_rfl) (by repeat first | exact Sub.nil | refine Sub.cons rfl ?_) (SubP.cons (Rem.tail Rem.head) (SubP.cons (Rem.tail Rem.head) (SubP.cons (Rem.tail Rem.head) (SubP.cons Rem.head (SubP.of sR))))) (st2_3 o0 o5 o14 v9)
  have st2_8 : ∀ (o0 : OV) (o5 : OV) (o17 : OV), Sat (⟨25, w, Nope⟩ : Ctx) (H 4 #[true, true, true, true, true, true, true, true, true, true, true, true, true, true, false, true, true, true, true, false, false, false]) [dz, (0, true, .pointer (some ⟨b1, 0, none⟩)), (1, true, .pointer (some ⟨b2, 0, none⟩)), (4, true, o0.v), (9, true, o5.v), (11, true, eRule.val exU1), (14, true, eRule.val exU2), (17, true, eRule.val exU3), (21, true, o17.v), (22, true, eMirrorConf.val exX1)] [OwnS o0.v iE [1, 2, 3] 3, OwnS o5.v eRoute [exR1, exR2] 102, OwnS o17.v eMeterConf [exM1] 81, Var b2 eMatch exWeb 91, Var b1 eConf eConf.zero 28] := by
    intro o0 o5 o17
    refine unH hH ?_
    refine all [14, 19] (by kernel_rfl) (by decide) (.cons rfl ?_ (.cons rfl ?_ .nil))
    · refine (buildSlice (E := eRule) Tryz.underlying24 ty93 z93 (.cons (.t rfl) (.cons (.t rfl) (.cons (.t rfl) .nil))) rfl rfl (fun v10 => ?_))
      refine hdn ?_
      exact goD hH (by kernel_rfl) (by repeat first | exact Sub.nil | refine Sub.cons rfl ?_) (SubP.cons (Rem.tail Rem.head) (SubP.cons (Rem.tail Rem.head) (SubP.cons Rem.head (SubP.cons Rem.head (SubP.of sR))))) (st2_2 o0 o5 v10 o17)
    · refine (buildSlice (E := eMirrorConf) Tryz.underlying26 ty83 z83 (.cons (.t rfl) .nil) rfl rfl (fun v11 => ?_))
      refine hdn ?_
      exact goD hH (by kernel_rfl) (by repeat first | exact Sub.nil | refine Sub.cons rfl ?_) (SubP.cons (Rem.tail Rem.head) (SubP.cons (Rem.tail Rem.head) (SubP.cons (Rem.tail Rem.head) (SubP.cons Rem.head (SubP.of sR))))) (st2_4 o0 o5 o17 v11)
  have st2_9 : ∀ (o0 : OV) (o5 : OV) (o19 : OV), Sat (⟨25, w, Nope⟩ : Ctx) (H 4 #[true, true, true, true, true, true, true, true, true, true, true, true, true, true, false, true, true, false, true, true, false, false]) [dz, (0, true, .pointer (some ⟨b1, 0, none⟩)), (1, true, .pointer (some ⟨b2, 0, none⟩)), (4, true, o0.v), (9, true, o5.v), (11, true, eRule.val exU1), (14, true, eRule.val exU2), (17, true, eRule.val exU3), (20, true, eMeterConf.val exM1), (23, true, o19.v)] [OwnS o0.v iE [1, 2, 3] 3, OwnS o5.v eRoute [exR1, exR2] 102, OwnS o19.v eMirrorConf [exX1] 83, Var b2 eMatch exWeb 91, Var b1 eConf eConf.zero 28] := by
    intro o0 o5 o19
    refine unH hH ?_
    refine all [14, 17] (by kernel_rfl) (by decide) (.cons rfl ?_ (.cons rfl ?_ .nil))
    · refine (buildSlice (E := eRule) Tryz.underlying24 ty93 z93 (.cons (.t rfl) (.cons (.t rfl) (.cons (.t rfl) .nil))) rfl rfl (fun v12 => ?_))
      refine hdn ?_
      exact goD hH (by kernel_rfl) (by repeat first | exact Sub.nil | refine Sub.cons rfl ?_) (SubP.cons (Rem.tail Rem.head) (SubP.cons (Rem.tail Rem.head) (SubP.cons Rem.head (SubP.cons Rem.head (SubP.of sR))))) (st2_3 o0 o5 v12 o19)
    · refine (buildSlice (E := eMeterConf) Tryz.underlying25 ty81 z81 (.cons (.t rfl) .nil) rfl rfl (fun v13 => ?_))
      refine hdn ?_
      exact goD hH (by kernel_rfl) (by repeat first | exact Sub.nil | refine Sub.cons rfl ?_) (SubP.cons (Rem.tail Rem.head) (SubP.cons (Rem.tail Rem.head) (SubP.cons Rem.head (SubP.cons Rem.head (SubP.of sR))))) (st2_4 o0 o5 v13 o19)
  have st2_10 : ∀ (o0 : OV) (o14 : OV) (o17 : OV), Sat (⟨25, w, Nope⟩ : Ctx) (H 4 #[true, true, true, true, true, false, true, true, true, true, true, true, true, true, true, true, true, true, true, false, false, false]) [dz, (0, true, .pointer (some ⟨b1, 0, none⟩)), (1, true, .pointer (some ⟨b2, 0, none⟩)), (4, true, o0.v), (6, true, eRoute.val exR1), (8, true, eRoute.val exR2), (18, true, o14.v), (21, true, o17.v), (22, true, eMirrorConf.val exX1)] [OwnS o0.v iE [1, 2, 3] 3, OwnS o14.v eRule [exU1, exU2, exU3] 93, OwnS o17.v eMeterConf [exM1] 81, Var b2 eMatch exWeb 91, Var b1 eConf eConf.zero 28] := by
    intro o0 o14 o17
    refine unH hH ?_
    refine all [5, 19] (by kernel_rfl) (by decide) (.cons rfl ?_ (.cons rfl ?_ .nil))
    · refine (buildSlice (E := eRoute) Tryz.underlying23 ty102 z102 (.cons (.t rfl) (.cons (.t rfl) .nil)) rfl rfl (fun v14 => ?_))
      refine hdn ?_
      exact goD hH (by kernel_rfl) (by repeat first | exact Sub.nil | refine Sub.cons rfl ?_) (SubP.cons (Rem.tail Rem.head) (SubP.cons Rem.head (SubP.cons Rem.head (SubP.cons Rem.head (SubP.of sR))))) (st2_2 o0 v14 o14 o17)
    · refine (buildSlice (E := eMirrorConf) Tryz.underlying26 ty83 z83 (.cons (.t rfl) .nil) rfl rfl (fun v15 => ?_))
      refine hdn ?_
      exact goD hH (by kernel_rfl) (by repeat first | exact Sub.nil | refine Sub.cons rfl ?_) (SubP.cons (Rem.tail Rem.head) (SubP.cons (Rem.tail Rem.head) (SubP.cons (Rem.tail Rem.head) (SubP.cons Rem.head (SubP.of sR))))) (st2_5 o0 o14 o17 v15)
  have st2_11 : ∀ (o0 : OV) (o14 : OV) (o19 : OV), Sat (⟨25, w, Nope⟩ : Ctx) (H 4 #[true, true, true, true, true, false, true, true, true, true, true, true, true, true, true, true, true, false, true, true, false, false]) [dz, (0, true, .pointer (some ⟨b1, 0, none⟩)), (1, true, .pointer (some ⟨b2, 0, none⟩)), (4, true, o0.v), (6, true, eRoute.val exR1), (8, true, eRoute.val exR2), (18, true, o14.v), (20, true, eMeterConf.val exM1), (23, true, o19.v)] [OwnS o0.v iE [1, 2, 3] 3, OwnS o14.v eRule [exU1, exU2, exU3] 93, OwnS o19.v eMirrorConf [exX1] 83, Var b2 eMatch exWeb 91, Var b1 eConf eConf.zero 28] := by
    intro o0 o14 o19
    refine unH hH ?_
    refine all [5, 17] (by kernel_rfl) (by decide) (.cons rfl ?_ (.cons rfl ?_ .nil))
    · refine (buildSlice (E := eRoute) Tryz.underlying23 ty102 z102 (.cons (.t rfl) (.cons (.t rfl) .nil)) rfl rfl (fun v16 => ?_))
      refine hdn ?_
      exact goD hH (by kernel_rfl) (by repeat first | exact Sub.nil | refine Sub.cons rfl ?_) (SubP.cons (Rem.tail Rem.head) (SubP.cons Rem.head (SubP.cons Rem.head (SubP.cons Rem.head (SubP.of sR))))) (st2_3 o0 v16 o14 o19)
    · refine (buildSlice (E := eMeterConf) Tryz.underlying25 ty81 z81 (.cons (.t rfl) .nil) rfl rfl (fun v17 => ?_))
      refine hdn ?_
      exact goD hH (by kernel_rfl) (by repeat first | exact Sub.nil | refine Sub.cons rfl ?_) (SubP.cons (Rem.tail Rem.head) (SubP.cons (Rem.tail Rem.head) (SubP.cons Rem.head (SubP.cons Rem.head (SubP.of sR))))) (st2_5 o0 o14 v17 o19)
  have st2_12 : ∀ (o0 : OV) (o17 : OV) (o19 : OV), Sat (⟨25, w, Nope⟩ : Ctx) (H 4 #[true, true, true, true, true, false, true, true, true, true, true, true, true, true, false, true, true, true, true, true, false, false]) [dz, (0, true, .pointer (some ⟨b1, 0, none⟩)), (1, true, .pointer (some ⟨b2, 0, none⟩)), (4, true, o0.v), (6, true, eRoute.val exR1), (8, true, eRoute.val exR2), (11, true, eRule.val exU1), (14, true, eRule.val exU2), (17, true, eRule.val exU3), (21, true, o17.v), (23, true, o19.v)] [OwnS o0.v iE [1, 2, 3] 3, OwnS o17.v eMeterConf [exM1] 81, OwnS o19.v eMirrorConf [exX1] 83, Var b2 eMatch exWeb 91, Var b1 eConf eConf.zero 28] := by
    intro o0 o17 o19
    refine unH hH ?_
    refine all [5, 14] (by kernel_rfl) (by decide) (.cons rfl ?_ (.cons rfl ?_ .nil))
    · refine (buildSlice (E := eRoute) Tryz.underlying23 ty102 z102 (.cons (.t rfl) (.cons (.t rfl) .nil)) rfl rfl (fun v18 => ?_))
      refine hdn ?_
      exact goD hH (by kernel_rfl) (by repeat first | exact Sub.nil | refine Sub.cons rfl ?_) (SubP.cons (Rem.tail Rem.head) (SubP.cons Rem.head (SubP.cons Rem.head (SubP.cons Rem.head (SubP.of sR))))) (st2_4 o0 v18 o17 o19)
    · refine (buildSlice (E := eRule) Tryz.underlying24 ty93 z93 (.cons (.t rfl) (.cons (.t rfl) (.cons (.t rfl) .nil))) rfl rfl (fun v19 => ?_))
      refine hdn ?_
      exact goD hH (by kernel_rfl) (by repeat first | exact Sub.nil | refine Sub.cons rfl ?_) (SubP.cons (Rem.tail Rem.head) (SubP.cons Rem.head (SubP.cons Rem.head (SubP.cons Rem.head (SubP.of sR))))) (st2_5 o0 v19 o17 o19)
  have st2_13 : ∀ (o5 : OV) (o14 : OV) (o17 : OV), Sat (⟨25, w, Nope⟩ : Ctx) (H 4 #[false, true, true, true, true, true, true, true, true, true, true, true, true, true, true, true, true, true, true, false, false, false]) [dz, (0, true, .pointer (some ⟨b1, 0, none⟩)), (1, true, .pointer (some ⟨b2, 0, none⟩)), (9, true, o5.v), (18, true, o14.v), (21, true, o17.v), (22, true, eMirrorConf.val exX1)] [OwnS o5.v eRoute [exR1, exR2] 102, OwnS o14.v eRule [exU1, exU2, exU3] 93, OwnS o17.v eMeterConf [exM1] 81, Var b2 eMatch exWeb 91, Var b1 eConf eConf.zero 28] := by
    intro o5 o14 o17
    refine unH hH ?_
    refine all [0, 19] (by kernel_rfl) (by decide) (.cons rfl ?_ (.cons rfl ?_ .nil))
    · refine (buildSlice (E := iE) Tryz.underlying22 ty3 z3 (.cons (.c (v := I 1) rfl) (.cons (.c (v := I 2) rfl) (.cons (.c (v := I 3) rfl) .nil))) rfl rfl (fun v20 => ?_))
      refine hdn ?_
      exact goD hH (by kernel_rfl) (by repeat first | exact Sub.nil | refine Sub.cons rfl ?_) (SubP.cons Rem.head (SubP.cons Rem.head (SubP.cons Rem.head (SubP.cons Rem.head (SubP.of sR))))) (st2_2 v20 o5 o14 o17)
    · refine (buildSlice (E := eMirrorConf) Tryz.underlying26 ty83 z83 (.cons (.t rfl) .nil) rfl rfl (fun v21 => ?_))
      refine hdn ?_
      exact goD hH (by kernel_rfl) (by repeat first | exact Sub.nil | refine Sub.cons rfl ?_) (SubP.cons (Rem.tail Rem.head) (SubP.cons (Rem.tail Rem.head) (SubP.cons (Rem.tail Rem.head) (SubP.cons Rem.head (SubP.of sR))))) (st2_6 o5 o14 o17 v21)
  have st2_14 : ∀ (o5 : OV) (o14 : OV) (o19 : OV), Sat (⟨25, w, Nope⟩ : Ctx) (H 4 #[false, true, true, true, true, true, true, true, true, true, true, true, true, true, true, true, true, false, true, true, false, false]) [dz, (0, true, .pointer (some ⟨b1, 0, none⟩)), (1, true, .pointer (some ⟨b2, 0, none⟩)), (9, true, o5.v), (18, true, o14.v), (20, true, eMeterConf.val exM1), (23, true, o19.v)] [OwnS o5.v eRoute [exR1, exR2] 102, OwnS o14.v eRule [exU1, exU2, exU3] 93, OwnS o19.v eMirrorConf [exX1] 83, Var b2 eMatch exWeb 91, Var b1 eConf eConf.zero 28] := by
    intro o5 o14 o19
    refine unH hH ?_
    refine all [0, 17] (by kernel_rfl) (by decide) (.cons rfl ?_ (.cons rfl ?_ .nil))
    · refine (buildSlice (E := iE) Tryz.underlying22 ty3 z3 (.cons (.c (v := I 1) rfl) (.cons (.c (v := I 2) rfl) (.cons (.c (v := I 3) rfl) .nil))) rfl rfl (fun v22 => ?_))
      refine hdn ?_
      exact goD hH (by kernel_rfl) (by repeat first | exact Sub.nil | refine Sub.cons rfl ?_) (SubP.cons Rem.head (SubP.cons Rem.head (SubP.cons Rem.head (SubP.cons Rem.head (SubP.of sR))))) (st2_3 v22 o5 o14 o19)
    · refine (buildSlice (E := eMeterConf) Tryz.underlying25 ty81 z81 (.cons (.t rfl) .nil) rfl rfl (fun v23 => ?_))
      refine hdn ?_
      exact goD hH (by kernel_rfl) (by repeat first | exact Sub.nil | refine Sub.cons rfl ?_) (SubP.cons (Rem.tail Rem.head) (SubP.cons (Rem.tail Rem.head) (SubP.cons Rem.head (SubP.cons Rem.head (SubP.of sR))))) (st2_6 o5 o14 v23 o19)
  have st2_15 : ∀ (o5 : OV) (o17 : OV) (o19 : OV), Sat (⟨25, w, Nope⟩ : Ctx) (H 4 #[false, true, true, true, true, true, true, true, true, true, true, true, true, true, false, true, true, true, true, true, false, false]) [dz, (0, true, .pointer (some ⟨b1, 0, none⟩)), (1, true, .pointer (some ⟨b2, 0, none⟩)), (9, true, o5.v), (11, true, eRule.val exU1), (14, true, eRule.val exU2), (17, true, eRule.val exU3), (21, true, o17.v), (23, true, o19.v)] [OwnS o5.v eRoute [exR1, exR2] 102, OwnS o17.v eMeterConf [exM1] 81, OwnS o19.v eMirrorConf [exX1] 83, Var b2 eMatch exWeb 91, Var b1 eConf eConf.zero 28] := by
    intro o5 o17 o19
    refine unH hH ?_
    refine all [0, 14] (by kernel_rfl) (by decide) (.cons rfl ?_ (.cons rfl ?_ .nil))
    · refine (buildSlice (E := iE) Tryz.underlying22 ty3 z3 (.cons (.c (v := I 1) rfl) (.cons (.c (v := I 2) rfl) (.cons (.c (v := I 3) rfl) .nil))) rfl rfl (fun v24 => ?_))
      refine hdn ?_
      exact goD hH (by kernel_rfl) (by repeat first | exact Sub.nil | refine Sub.cons rfl ?_) (SubP.cons Rem.head (SubP.cons Rem.head (SubP.cons Rem.head (SubP.cons Rem.head (SubP.of sR))))) (st2_4 v24 o5 o17 o19)
    · refine (buildSlice (E := eRule) Tryz.underlying24 ty93 z93 (.cons (.t rfl) (.cons (.t rfl) (.cons (.t rfl) .nil))) rfl rfl (fun v25 => ?_))
      refine hdn ?_
      exact goD hH (by kernel_rfl) (by repeat first | exact Sub.nil | refine Sub.cons rfl ?_) (SubP.cons (Rem.tail Rem.head) (SubP.cons Rem.head (SubP.cons Rem.head (SubP.cons Rem.head (SubP.of sR))))) (st2_6 o5 v25 o17 o19)
  have st2_16 : ∀ (o14 : OV) (o17 : OV) (o19 : OV), Sat (⟨25, w, Nope⟩ : Ctx) (H 4 #[false, true, true, true, true, false, true, true, true, true, true, true, true, true, true, true, true, true, true, true, false, false]) [dz, (0, true, .pointer (some ⟨b1, 0, none⟩)), (1, true, .pointer (some ⟨b2, 0, none⟩)), (6, true, eRoute.val exR1), (8, true, eRoute.val exR2), (18, true, o14.v), (21, true, o17.v), (23, true, o19.v)] [OwnS o14.v eRule [exU1, exU2, exU3] 93, OwnS o17.v eMeterConf [exM1] 81, OwnS o19.v eMirrorConf [exX1] 83, Var b2 eMatch exWeb 91, Var b1 eConf eConf.zero 28] := by
    intro o14 o17 o19
    refine unH hH ?_
    refine all [0, 5] (by kernel_rfl) (by decide) (.cons rfl ?_ (.cons rfl ?_ .nil))
    · refine (buildSlice (E := iE) Tryz.underlying22 ty3 z3 (.cons (.c (v := I 1) rfl) (.cons (.c (v := I 2) rfl) (.cons (.c (v := I 3) rfl) .nil))) rfl rfl (fun v26 => ?_))
      refine hdn ?_
      exact goD hH (by kernel_rfl) (by repeat first | exact Sub.nil | refine Sub.cons rfl ?_) (SubP.cons Rem.head (SubP.cons Rem.head (SubP.cons Rem.head (SubP.cons Rem.head (SubP.of sR))))) (st2_5 v26 o14 o17 o19)
    · refine (buildSlice (E := eRoute) Tryz.underlying23 ty102 z102 (.cons (.t rfl) (.cons (.t rfl) .nil)) rfl rfl (fun v27 => ?_))
      refine hdn ?_
      exact goD hH (by kernel_rfl) (by repeat first | exact Sub.nil | refine Sub.cons rfl ?_) (SubP.cons Rem.head (SubP.cons Rem.head (SubP.cons Rem.head (SubP.cons Rem.head (SubP.of sR))))) (st2_6 v27 o14 o17 o19)
  have st2_17 : ∀ (o0 : OV) (o5 : OV), Sat (⟨25, w, Nope⟩ : Ctx) (H 5 #[true, true, true, true, true, true, true, true, true, true, true, true, true, true, false, true, true, false, true, false, false, false]) [dz, (0, true, .pointer (some ⟨b1, 0, none⟩)), (1, true, .pointer (some ⟨b2, 0, none⟩)), (4, true, o0.v), (9, true, o5.v), (11, true, eRule.val exU1), (14, true, eRule.val exU2), (17, true, eRule.val exU3), (20, true, eMeterConf.val exM1), (22, true, eMirrorConf.val exX1)] [OwnS o0.v iE [1, 2, 3] 3, OwnS o5.v eRoute [exR1, exR2] 102, Var b2 eMatch exWeb 91, Var b1 eConf eConf.zero 28] := by
    intro o0 o5
    refine unH hH ?_
    refine all [14, 17, 19] (by kernel_rfl) (by decide) (.cons rfl ?_ (.cons rfl ?_ (.cons rfl ?_ .nil)))
    · refine (buildSlice (E := eRule) Tryz.underlying24 ty93 z93 (.cons (.t rfl) (.cons (.t rfl) (.cons (.t rfl) .nil))) rfl rfl (fun v28 => ?_))
      refine hdn ?_
      exact goD hH (by kernel_rfl) (by repeat first | exact Sub.nil | refine Sub.cons rfl ?_) (SubP.cons (Rem.tail Rem.head) (SubP.cons (Rem.tail Rem.head) (SubP.cons Rem.head (SubP.of sR)))) (st2_7 o0 o5 v28)
    · refine (buildSlice (E := eMeterConf) Tryz.underlying25 ty81 z81 (.cons (.t rfl) .nil) rfl rfl (fun v29 => ?_))
      refine hdn ?_
      exact goD hH (by kernel_rfl) (by repeat first | exact Sub.nil | refine Sub.cons rfl ?_) (SubP.cons (Rem.tail Rem.head) (SubP.cons (Rem.tail Rem.head) (SubP.cons Rem.head (SubP.of sR)))) (st2_8 o0 o5 v29)
    · refine (buildSlice (E := eMirrorConf) Tryz.underlying26 ty83 z83 (.cons (.t rfl) .nil) rfl rfl (fun v30 => ?_))
      refine hdn ?_
      exact goD hH (by kernel_rfl) (by repeat first | exact Sub.nil | refine Sub.cons rfl ?_) (SubP.cons (Rem.tail Rem.head) (SubP.cons (Rem.tail Rem.head) (SubP.cons Rem.head (SubP.of sR)))) (st2_9 o0 o5 v30)
  have st2_18 : ∀ (o0 : OV) (o14 : OV), Sat (⟨25, w, Nope⟩ : Ctx) (H 5 #[true, true, true, true, true, false, true, true, true, true, true, true, true, true, true, true, true, false, true, false, false, false]) [dz, (0, true, .pointer (some ⟨b1, 0, none⟩)), (1, true, .pointer (some ⟨b2, 0, none⟩)), (4, true, o0.v), (6, true, eRoute.val exR1), (8, true, eRoute.val exR2), (18, true, o14.v), (20, true, eMeterConf.val exM1), (22, true, eMirrorConf.val exX1)] [OwnS o0.v iE [1, 2, 3] 3, OwnS o14.v eRule [exU1, exU2, exU3] 93, Var b2 eMatch exWeb 91, Var b1 eConf eConf.zero 28] := by
    intro o0 o14
    refine unH hH ?_
    refine all [5, 17, 19] (by kernel_rfl) (by decide) (.cons rfl ?_ (.cons rfl ?_ (.cons rfl ?_ .nil)))
    · refine (buildSlice (E := eRoute) Tryz.underlying23 ty102 z102 (.cons (.t rfl) (.cons (.t rfl) .nil)) rfl rfl (fun v31 => ?_))
      refine hdn ?_
      exact goD hH (by kernel_rfl) (by repeat first | exact Sub.nil | refine Sub.cons rfl ?_) (SubP.cons (Rem.tail Rem.head) (SubP.cons Rem.head (SubP.cons Rem.head (SubP.of sR)))) (st2_7 o0 v31 o14)
    · refine (buildSlice (E := eMeterConf) Tryz.underlying25 ty81 z81 (.cons (.t rfl) .nil) rfl rfl (fun v32 => ?_))
      refine hdn ?_
      exact goD hH (by kernel_rfl) (by repeat first | exact Sub.nil | refine Sub.cons rfl ?_) (SubP.cons (Rem.tail Rem.head) (SubP.cons (Rem.tail Rem.head) (SubP.cons Rem.head (SubP.of sR)))) (st2_10 o0 o14 v32)
    · refine (buildSlice (E := eMirrorConf) Tryz.underlying26 ty83 z83 (.cons (.t rfl) .nil) rfl rfl (fun v33 => ?_))
      refine hdn ?_
      exact goD hH (by kernel_rfl) (by repeat first | exact Sub.nil | refine Sub.cons rfl ?_) (SubP.cons (Rem.tail Rem.head) (SubP.cons (Rem.tail Rem.head) (SubP.cons Rem.head (SubP.of sR)))) (st2_11 o0 o14 v33)
  have st2_19 : ∀ (o0 : OV) (o17 : OV), Sat (⟨25, w, Nope⟩ : Ctx) (H 5 #[true, true, true, true, true, false, true, true, true, true, true, true, true, true, false, true, true, true, true, false, false, false]) [dz, (0, true, .pointer (some ⟨b1, 0, none⟩)), (1, true, .pointer (some ⟨b2, 0, none⟩)), (4, true, o0.v), (6, true, eRoute.val exR1), (8, true, eRoute.val exR2), (11, true, eRule.val exU1), (14, true, eRule.val exU2), (17, true, eRule.val exU3), (21, true, o17.v), (22, true, eMirrorConf.val exX1)] [OwnS o0.v iE [1, 2, 3] 3, OwnS o17.v eMeterConf [exM1] 81, Var b2 eMatch exWeb 91, Var b1 eConf eConf.zero 28] := by
    intro o0 o17
    refine unH hH ?_
    refine all [5, 14, 19] (by kernel_rfl) (by decide) (.cons rfl ?_ (.cons rfl ?_ (.cons rfl ?_ .nil)))
    · refine (buildSlice (E := eRoute) Tryz.underlying23 ty102 z102 (.cons (.t rfl) (.cons (.t rfl) .nil)) rfl rfl (fun v34 => ?_))
      refine hdn ?_
      exact goD hH (by kernel_rfl) (by repeat first | exact Sub.nil | refine Sub.cons rfl ?_) (SubP.cons (Rem.tail Rem.head) (SubP.cons Rem.head (SubP.cons Rem.head (SubP.of sR)))) (st2_8 o0 v34 o17)
    · refine (buildSlice (E := eRule) Tryz.underlying24 ty93 z93 (.cons (.t rfl) (.cons (.t rfl) (.cons (.t rfl) .nil))) rfl rfl (fun v35 => ?_))
      refine hdn ?_
      exact goD hH (by kernel_rfl) (by repeat first | exact Sub.nil | refine Sub.cons rfl ?_) (SubP.cons (Rem.tail Rem.head) (SubP.cons Rem.head (SubP.cons Rem.head (SubP.of sR)))) (st2_10 o0 v35 o17)
    · refine (buildSlice (E := eMirrorConf) Tryz.underlying26 ty83 z83 (.cons (.t rfl) .nil) rfl rfl (fun v36 => ?_))
      refine hdn ?_
      exact goD hH (by kernel_rfl) (by repeat first | exact Sub.nil | refine Sub.cons rfl ?_) (SubP.cons (Rem.tail Rem.head) (SubP.cons (Rem.tail Rem.head) (SubP.cons Rem.head (SubP.of sR)))) (st2_12 o0 o17 v36)
  have st2_20 : ∀ (o0 : OV) (o19 : OV), Sat (⟨25, w, Nope⟩ : Ctx) (H 5 #[true, true, true, true, true, false, true, true, true, true, true, true, true, true, false, true, true, false, true, true, false, false]) [dz, (0, true, .pointer (some ⟨b1, 0, none⟩)), (1, true, .pointer (some ⟨b2, 0, none⟩)), (4, true, o0.v), (6, true, eRoute.val exR1), (8, true, eRoute.val exR2), (11, true, eRule.val exU1), (14, true, eRule.val exU2), (17, true, eRule.val exU3), (20, true, eMeterConf.val exM1), (23, true, o19.v)] [OwnS o0.v iE [1, 2, 3] 3, OwnS o19.v eMirrorConf [exX1] 83, Var b2 eMatch exWeb 91, Var b1 eConf eConf.zero 28] := by
    intro o0 o19
    refine unH hH ?_
    refine all [5, 14, 17] (by kernel_rfl) (by decide) (.cons rfl ?_ (.cons rfl ?_ (.cons rfl ?_ .nil)))
    · refine (buildSlice (E := eRoute) Tryz.underlying23 ty102 z102 (.cons (.t rfl) (.cons (.t rfl) .nil)) rfl rfl (fun v37 => ?_))
      refine hdn ?_
      exact goD hH (by kernel_rfl) (by repeat first | exact Sub.nil | refine Sub.cons rfl ?_) (SubP.cons (Rem.tail Rem.head) (SubP.cons Rem.head (SubP.cons Rem.head (SubP.of sR)))) (st2_9 o0 v37 o19)
    · refine (buildSlice (E := eRule) Tryz.underlying24 ty93 z93 (.cons (.t rfl) (.cons (.t rfl) (.cons (.t rfl) .nil))) rfl rfl (fun v38 => ?_))
      refine hdn ?_
      exact goD hH (by kernel_rfl) (by repeat first | exact Sub.nil | refine Sub.cons rfl ?_) (SubP.cons (Rem.tail Rem.head) (SubP.cons Rem.head (SubP.cons Rem.head (SubP.of sR)))) (st2_11 o0 v38 o19)
    · refine (buildSlice (E := eMeterConf) Tryz.underlying25 ty81 z81 (.cons (.t rfl) .nil) rfl rfl (fun v39 => ?_))
      refine hdn ?_
      exact goD hH (by kernel_rfl) (by repeat first | exact Sub.nil | refine Sub.cons rfl ?_) (SubP.cons (Rem.tail Rem.head) (SubP.cons Rem.head (SubP.cons Rem.head (SubP.of sR)))) (st2_12 o0 v39 o19)
  have st2_21 : ∀ (o5 : OV) (o14 : OV), Sat (⟨25, w, Nope⟩ : Ctx) (H 5 #[false, true, true, true, true, true, true, true, true, true, true, true, true, true, true, true, true, false, true, false, false, false]) [dz, (0, true, .pointer (some ⟨b1, 0, none⟩)), (1, true, .pointer (some ⟨b2, 0, none⟩)), (9, true, o5.v), (18, true, o14.v), (20, true, eMeterConf.val exM1), (22, true, eMirrorConf.val exX1)] [OwnS o5.v eRoute [exR1, exR2] 102, OwnS o14.v eRule [exU1, exU2, exU3] 93, Var b2 eMatch exWeb 91, Var b1 eConf eConf.zero 28] := by
    intro o5 o14
    refine unH hH ?_
    refine all [0, 17, 19] (by kernel_rfl) (by decide) (.cons rfl ?_ (.cons rfl ?_ (.cons rfl ?_ .nil)))
    · refine (buildSlice (E := iE) Tryz.underlying22 ty3 z3 (.cons (.c (v := I 1) rfl) (.cons (.c (v := I 2) rfl) (.cons (.c (v := I 3) rfl) .nil))) rfl rfl (fun v40 => ?_))
      refine hdn ?_
      exact goD hH (by kernel_rfl) (by repeat first | exact Sub.nil | refine Sub.cons rfl ?_) (SubP.cons Rem.head (SubP.cons Rem.head (SubP.cons Rem.head (SubP.of sR)))) (st2_7 v40 o5 o14)
    · refine (buildSlice (E := eMeterConf) Tryz.underlying25 ty81 z81 (.cons (.t rfl) .nil) rfl rfl (fun v41 => ?_))
      refine hdn ?_
      exact goD hH (by kernel_rfl) (by repeat first | exact Sub.nil | refine Sub.cons rfl ?_) (SubP.cons (Rem.tail Rem.head) (SubP.cons (Rem.tail Rem.head) (SubP.cons Rem.head (SubP.of sR)))) (st2_13 o5 o14 v41)
    · refine (buildSlice (E := eMirrorConf) Tryz.underlying26 ty83 z83 (.cons (.t rfl) .nil) rfl rfl (fun v42 => ?_))
      refine hdn ?_
      exact goD hH (by kernel_rfl) (by repeat first | exact Sub.nil | refine Sub.cons rfl ?_) (SubP.cons (Rem.tail Rem.head) (SubP.cons (Rem.tail Rem.head) (SubP.cons Rem.head (SubP.of sR)))) (st2_14 o5 o14 v42)
  have st2_22 : ∀ (o5 : OV) (o17 : OV), Sat (⟨25, w, Nope⟩ : Ctx) (H 5 #[false, true, true, true, true, true, true, true, true, true, true, true, true, true, false, true, true, true, true, false, false, false]) [dz, (0, true, .pointer (some ⟨b1, 0, none⟩)), (1, true, .pointer (some ⟨b2, 0, none⟩)), (9, true, o5.v), (11, true, eRule.val exU1), (14, true, eRule.val exU2), (17, true, eRule.val exU3), (21, true, o17.v), (22, true, eMirrorConf.val exX1)] [OwnS o5.v eRoute [exR1, exR2] 102, OwnS o17.v eMeterConf [exM1] 81, Var b2 eMatch exWeb 91, Var b1 eConf eConf.zero 28] := by
    intro o5 o17
    refine unH hH ?_
    refine all [0, 14, 19] (by kernel_rfl) (by decide) (.cons rfl ?_ (.cons rfl ?_ (.cons rfl ?_ .nil)))
    · refine (buildSlice (E := iE) Tryz.underlying22 ty3 z3 (.cons (.c (v := I 1) rfl) (.cons (.c (v := I 2) rfl) (.cons (.c (v := I 3) rfl) .nil))) rfl rfl (fun v43 => ?_))
      refine hdn ?_
      exact goD hH (by kernel_rfl) (by repeat first | exact Sub.nil | refine Sub.cons rfl ?_) (SubP.cons Rem.head (SubP.cons Rem.head (SubP.cons Rem.head (SubP.of sR)))) (st2_8 v43 o5 o17)
    · refine (buildSlice (E := eRule) Tryz.underlying24 ty93 z93 (.cons (.t rfl) (.cons (.t rfl) (.cons (.t rfl) .nil))) rfl rfl (fun v44 => ?_))
      refine hdn ?_
      exact goD hH (by kernel_rfl) (by repeat first | exact Sub.nil | refine Sub.cons rfl ?_) (SubP.cons (Rem.tail Rem.head) (SubP.cons Rem.head (SubP.cons Rem.head (SubP.of sR)))) (st2_13 o5 v44 o17)
    · refine (buildSlice (E := eMirrorConf) Tryz.underlying26 ty83 z83 (.cons (.t rfl) .nil) rfl rfl (fun v45 => ?_))
      refine hdn ?_
      exact goD hH (by kernel_rfl) (by repeat first | exact Sub.nil | refine Sub.cons rfl ?_) (SubP.cons (Rem.tail Rem.head) (SubP.cons (Rem.tail Rem.head) (SubP.cons Rem.head (SubP.of sR)))) (st2_15 o5 o17 v45)
  have st2_23 : ∀ (o5 : OV) (o19 : OV), Sat (⟨25, w, Nope⟩ : Ctx) (H 5 #[false, true, true, true, true, true, true, true, true, true, true, true, true, true, false, true, true, false, true, true, false, false]) [dz, (0, true, .pointer (some ⟨b1, 0, none⟩)), (1, true, .pointer (some ⟨b2, 0, none⟩)), (9, true, o5.v), (11, true, eRule.val exU1), (14, true, eRule.val exU2), (17, true, eRule.val exU3), (20, true, eMeterConf.val exM1), (23, true, o19.v)] [OwnS o5.v eRoute [exR1, exR2] 102, OwnS o19.v eMirrorConf [exX1] 83, Var b2 eMatch exWeb 91, Var b1 eConf eConf.zero 28] := by
    intro o5 o19
    refine unH hH ?_
    refine all [0, 14, 17] (by kernel_rfl) (by decide) (.cons rfl ?_ (.cons rfl ?_ (.cons rfl ?_ .nil)))
    · refine (buildSlice (E := iE) Tryz.underlying22 ty3 z3 (.cons (.c (v := I 1) rfl) (.cons (.c (v := I 2) rfl) (.cons (.c (v := I 3) rfl) .nil))) rfl rfl (fun v46 => ?_))
      refine hdn ?_
      exact goD hH (by kernel_rfl) (by repeat first | exact Sub.nil | refine Sub.cons rfl ?_) (SubP.cons Rem.head (SubP.cons Rem.head (SubP.cons Rem.head (SubP.of sR)))) (st2_9 v46 o5 o19)
    · refine (buildSlice (E := eRule) Tryz.underlying24 ty93 z93 (.cons (.t rfl) (.cons (.t rfl) (.cons (.t rfl) .nil))) rfl rfl (fun v47 => ?_))
      refine hdn ?_
      exact goD hH (by kernel_rfl) (by repeat first | exact Sub.nil | refine Sub.cons rfl ?_) (SubP.cons (Rem.tail Rem.head) (SubP.cons Rem.head (SubP.cons Rem.head (SubP.of sR)))) (st2_14 o5 v47 o19)
    · refine (buildSlice (E := eMeterConf) Tryz.underlying25 ty81 z81 (.cons (.t rfl) .nil) rfl rfl (fun v48 => ?_))
      refine hdn ?_
      exact goD hH (by kernel_rfl) (by repeat first | exact Sub.nil | refine Sub.cons rfl ?_) (SubP.cons (Rem.tail Rem.head) (SubP.cons Rem.head (SubP.cons Rem.head (SubP.of sR)))) (st2_15 o5 v48 o19)
  have st2_24 : ∀ (o14 : OV) (o17 : OV), Sat (⟨25, w, Nope⟩ : Ctx) (H 5 #[false, true, true, true, true, false, true, true, true, true, true, true, true, true, true, true, true, true, true, false, false, false]) [dz, (0, true, .pointer (some ⟨b1, 0, none⟩)), (1, true, .pointer (some ⟨b2, 0, none⟩)), (6, true, eRoute.val exR1), (8, true, eRoute.val exR2), (18, true, o14.v), (21, true, o17.v), (22, true, eMirrorConf.val exX1)] [OwnS o14.v eRule [exU1, exU2, exU3] 93, OwnS o17.v eMeterConf [exM1] 81, Var b2 eMatch exWeb 91, Var b1 eConf eConf.zero 28] := by
    intro o14 o17
    refine unH hH ?_
    refine all [0, 5, 19] (by kernel_rfl) (by decide) (.cons rfl ?_ (.cons rfl ?_ (.cons rfl ?_ .nil)))
    · refine (buildSlice (E := iE) Tryz.underlying22 ty3 z3 (.cons (.c (v := I 1) rfl) (.cons (.c (v := I 2) rfl) (.cons (.c (v := I 3) rfl) .nil))) rfl rfl (fun v49 => ?_))
      refine hdn ?_
      exact goD hH (by kernel_rfl) (by repeat first | exact Sub.nil | refine Sub.cons rfl ?_) (SubP.cons Rem.head (SubP.cons Rem.head (SubP.cons Rem.head (SubP.of sR)))) (st2_10 v49 o14 o17)
    · refine (buildSlice (E := eRoute) Tryz.underlying23 ty102 z102 (.cons (.t rfl) (.cons (.t rfl) .nil)) rfl rfl (fun v50 => ?_))
      refine hdn ?_
      exact goD hH (by kernel_rfl) (by repeat first | exact Sub.nil | refine Sub.cons rfl ?_) (SubP.cons Rem.head (SubP.cons Rem.head (SubP.cons Rem.head (SubP.of sR)))) (st2_13 v50 o14 o17)
    · refine (buildSlice (E := eMirrorConf) Tryz.underlying26 ty83 z83 (.cons (.t rfl) .nil) rfl rfl (fun v51 => ?_))
      refine hdn ?_
      exact goD hH (by kernel_rfl) (by repeat first | exact Sub.nil | refine Sub.cons rfl ?_) (SubP.cons (Rem.tail Rem.head) (SubP.cons (Rem.tail Rem.head) (SubP.cons Rem.head (SubP.of sR)))) (st2_16 o14 o17 v51)
  have st2_25 : ∀ (o14 : OV) (o19 : OV), Sat (⟨25, w, Nope⟩ : Ctx) (H 5 #[false, true, true, true, true, false, true, true, true, true, true, true, true, true, true, true, true, false, true, true, false, false]) [dz, (0, true, .pointer (some ⟨b1, 0, none⟩)), (1, true, .pointer (some ⟨b2, 0, none⟩)), (6, true, eRoute.val exR1), (8, true, eRoute.val exR2), (18, true, o14.v), (20, true, eMeterConf.val exM1), (23, true, o19.v)] [OwnS o14.v eRule [exU1, exU2, exU3] 93, OwnS o19.v eMirrorConf [exX1] 83, Var b2 eMatch exWeb 91, Var b1 eConf eConf.zero 28] := by
    intro o14 o19
    refine unH hH ?_
    refine all [0, 5, 17] (by kernel_rfl) (by decide) (.cons rfl ?_ (.cons rfl ?_ (.cons rfl ?_ .nil)))
    · refine (buildSlice (E := iE) Tryz.underlying22 ty3 z3 (.cons (.c (v := I 1) rfl) (.cons (.c (v := I 2) rfl) (.cons (.c (v := I 3) rfl) .nil))) rfl rfl (fun v52 => ?_))
      refine hdn ?_
      exact goD hH (by kernel_rfl) (by repeat first | exact Sub.nil | refine Sub.cons rfl ?_) (SubP.cons Rem.head (SubP.cons Rem.head (SubP.cons Rem.head (SubP.of sR)))) (st2_11 v52 o14 o19)
    · refine (buildSlice (E := eRoute) Tryz.underlying23 ty102 z102 (.cons (.t rfl) (.cons (.t rfl) .nil)) rfl rfl (fun v53 => ?_))
      refine hdn ?_
      exact goD hH (by kernel_rfl) (by repeat first | exact Sub.nil | refine Sub.cons rfl ?_) (SubP.cons Rem.head (SubP.cons Rem.head (SubP.cons Rem.head (SubP.of sR)))) (st2_14 v53 o14 o19)
    · refine (buildSlice (E := eMeterConf) Tryz.underlying25 ty81 z81 (.cons (.t rfl) .nil) rfl rfl (fun v54 => ?_))
      refine hdn ?_
      exact goD hH (by kernel_rfl) (by repeat first | exact Sub.nil | refine Sub.cons rfl ?_) (SubP.cons (Rem.tail Rem.head) (SubP.cons Rem.head (SubP.cons Rem.head (SubP.of sR)))) (st2_16 o14 v54 o19)
  have st2_26 : ∀ (o17 : OV) (o19 : OV), Sat (⟨25, w, Nope⟩ : Ctx) (H 5 #[false, true, true, true, true, false, true, true, true, true, true, true, true, true, false, true, true, true, true, true, false, false]) [dz, (0, true, .pointer (some ⟨b1, 0, none⟩)), (1, true, .pointer (some ⟨b2, 0, none⟩)), (6, true, eRoute.val exR1), (8, true, eRoute.val exR2), (11, true, eRule.val exU1), (14, true, eRule.val exU2), (17, true, eRule.val exU3), (21, true, o17.v), (23, true, o19.v)] [OwnS o17.v eMeterConf [exM1] 81, OwnS o19.v eMirrorConf [exX1] 83, Var b2 eMatch exWeb 91, Var b1 eConf eConf.zero 28] := by
    intro o17 o19
    refine unH hH ?_
    refine all [0, 5, 14] (by kernel_rfl) (by decide) (.cons rfl ?_ (.cons rfl ?_ (.cons rfl ?_ .nil)))
    · refine (buildSlice (E := iE) Tryz.underlying22 ty3 z3 (.cons (.c (v := I 1) rfl) (.cons (.c (v := I 2) rfl) (.cons (.c (v := I 3) rfl) .nil))) rfl rfl (fun v55 => ?_))
      refine hdn ?_
      exact goD hH (by kernel_rfl) (by repeat first | exact Sub.nil | refine Sub.cons rfl ?_) (SubP.cons Rem.head (SubP.cons Rem.head (SubP.cons Rem.head (SubP.of sR)))) (st2_12 v55 o17 o19)
    · refine (buildSlice (E := eRoute) Tryz.underlying23 ty102 z102 (.cons (.t rfl) (.cons (.t rfl) .nil)) rfl rfl (fun v56 => ?_))
      refine hdn ?_
      exact goD hH (by kernel_rfl) (by repeat first | exact Sub.nil | refine Sub.cons rfl ?_) (SubP.cons Rem.head (SubP.cons Rem.head (SubP.cons Rem.head (SubP.of sR)))) (st2_15 v56 o17 o19)
    · refine (buildSlice (E := eRule) Tryz.underlying24 ty93 z93 (.cons (.t rfl) (.cons (.t rfl) (.cons (.t rfl) .nil))) rfl rfl (fun v57 => ?_))
      refine hdn ?_
      exact goD hH (by kernel_rfl) (by repeat first | exact Sub.nil | refine Sub.cons rfl ?_) (SubP.cons Rem.head (SubP.cons Rem.head (SubP.cons Rem.head (SubP.of sR)))) (st2_16 v57 o17 o19)
  have st2_27 : ∀ (o0 : OV) (o5 : OV) (o17 : OV) (o19 : OV), Sat (⟨25, w, Nope⟩ : Ctx) (H 6 #[true, true, true, true, true, true, true, true, false, false, false, true, true, true, false, true, true, true, true, true, false, false]) [dz, (0, true, .pointer (some ⟨b1, 0, none⟩)), (1, true, .pointer (some ⟨b2, 0, none⟩)), (4, true, o0.v), (9, true, o5.v), (11, true, eRule.val exU1), (17, true, eRule.val exU3), (21, true, o17.v), (23, true, o19.v)] [OwnS o0.v iE [1, 2, 3] 3, OwnS o5.v eRoute [exR1, exR2] 102, OwnS o17.v eMeterConf [exM1] 81, OwnS o19.v eMirrorConf [exX1] 83, Var b2 eMatch exWeb 91, Var b1 eConf eConf.zero 28] := by
    intro o0 o5 o17 o19
    refine unH hH ?_
    refine al1 8 rfl ((callv en34 (.cons (.c (v := U8 10) rfl) (.cons (.c (v := U8 9) rfl) (.cons (.c (v := I 16) rfl) .nil))) (fun w I => four_ok _ _ _ w) ?_))
    refine hdn (tk 9 rfl (Ev.buildS (fs := _) (places := [(0, 1), (1, 2), (3, 18), (21, 18), (39, 1), (40, 2), (42, 2)]) z91 rfl Tryz.underlying91 (by kernel_rfl) (.cons (.c (v := U8 2) rfl) (.cons (.t rfl) .nil)) (Fills.cons SMatch.l_asks rfl (Fills.cons SMatch.l_src rfl Fills.nil))) ?_)
    refine tk 10 rfl (Ev.buildS (fs := _) (places := [(0, 1), (1, 44), (45, 1), (46, 1), (47, 1), (48, 1)]) z93 rfl Tryz.underlying93 (by kernel_rfl) (.cons (.c (v := (Go.Value.string (ByteArray.mk #[110, 111]))) rfl) (.cons (.t rfl) (.cons (.c (v := I 4) rfl) .nil))) (Fills.cons SRule.l_name rfl (Fills.cons SRule.l_match_ rfl (Fills.cons SRule.l_action rfl Fills.nil)))) ?_
    exact goD hH (by kernel_rfl) (by repeat first | exact Sub.nil | refine Sub.cons rfl ?_) (SubP.cons Rem.head (SubP.cons Rem.head (SubP.cons Rem.head (SubP.cons Rem.head (SubP.of sR))))) (st2_4 o0 o5 o17 o19)
  have st2_28 : ∀ (o0 : OV), Sat (⟨25, w, Nope⟩ : Ctx) (H 6 #[true, true, true, true, true, false, true, true, true, true, true, true, true, true, false, true, true, false, true, false, false, false]) [dz, (0, true, .pointer (some ⟨b1, 0, none⟩)), (1, true, .pointer (some ⟨b2, 0, none⟩)), (4, true, o0.v), (6, true, eRoute.val exR1), (8, true, eRoute.val exR2), (11, true, eRule.val exU1), (14, true, eRule.val exU2), (17, true, eRule.val exU3), (20, true, eMeterConf.val exM1), (22, true, eMirrorConf.val exX1)] [OwnS o0.v iE [1, 2, 3] 3, Var b2 eMatch exWeb 91, Var b1 eConf eConf.zero 28] := by
    intro o0
    refine unH hH ?_
    refine all [5, 14, 17, 19] (by kernel_rfl) (by decide) (.cons rfl ?_ (.cons rfl ?_ (.cons rfl ?_ (.cons rfl ?_ .nil))))
    · refine (buildSlice (E := eRoute) Tryz.underlying23 ty102 z102 (.cons (.t rfl) (.cons (.t rfl) .nil)) rfl rfl (fun v58 => ?_))
      refine hdn ?_
      exact goD hH (by kernel_rfl) (by repeat first | exact Sub.nil | refine Sub.cons rfl ?_) (SubP.cons (Rem.tail Rem.head) (SubP.cons Rem.head (SubP.of sR))) (st2_17 o0 v58)
    · refine (buildSlice (E := eRule) Tryz.underlying24 ty93 z93 (.cons (.t rfl) (.cons (.t rfl) (.cons (.t rfl) .nil))) rfl rfl (fun v59 => ?_))
      refine hdn ?_
      exact goD hH (by kernel_rfl) (by repeat first | exact Sub.nil | refine Sub.cons rfl ?_) (SubP.cons (Rem.tail Rem.head) (SubP.cons Rem.head (SubP.of sR))) (st2_18 o0 v59)
    · refine (buildSlice (E := eMeterConf) Tryz.underlying25 ty81 z81 (.cons (.t rfl) .nil) rfl rfl (fun v60 => ?_))
      refine hdn ?_
      exact goD hH (by kernel_rfl) (by repeat first | exact Sub.nil | refine Sub.cons rfl ?_) (SubP.cons (Rem.tail Rem.head) (SubP.cons Rem.head (SubP.of sR))) (st2_19 o0 v60)
    · refine (buildSlice (E := eMirrorConf) Tryz.underlying26 ty83 z83 (.cons (.t rfl) .nil) rfl rfl (fun v61 => ?_))
      refine hdn ?_
      exact goD hH (by kernel_rfl) (by repeat first | exact Sub.nil | refine Sub.cons rfl ?_) (SubP.cons (Rem.tail Rem.head) (SubP.cons Rem.head (SubP.of sR))) (st2_20 o0 v61)
  have st2_29 : ∀ (o5 : OV), Sat (⟨25, w, Nope⟩ : Ctx) (H 6 #[false, true, true, true, true, true, true, true, true, true, true, true, true, true, false, true, true, false, true, false, false, false]) [dz, (0, true, .pointer (some ⟨b1, 0, none⟩)), (1, true, .pointer (some ⟨b2, 0, none⟩)), (9, true, o5.v), (11, true, eRule.val exU1), (14, true, eRule.val exU2), (17, true, eRule.val exU3), (20, true, eMeterConf.val exM1), (22, true, eMirrorConf.val exX1)] [OwnS o5.v eRoute [exR1, exR2] 102, Var b2 eMatch exWeb 91, Var b1 eConf eConf.zero 28] := by
    intro o5
    refine unH hH ?_
    refine all [0, 14, 17, 19] (by kernel_rfl) (by decide) (.cons rfl ?_ (.cons rfl ?_ (.cons rfl ?_ (.cons rfl ?_ .nil))))
    · refine (buildSlice (E := iE) Tryz.underlying22 ty3 z3 (.cons (.c (v := I 1) rfl) (.cons (.c (v := I 2) rfl) (.cons (.c (v := I 3) rfl) .nil))) rfl rfl (fun v62 => ?_))
      refine hdn ?_
      exact goD hH (by kernel_rfl) (by repeat first | exact Sub.nil | refine Sub.cons rfl ?_) (SubP.cons Rem.head (SubP.cons Rem.head (SubP.of sR))) (st2_17 v62 o5)
    · refine (buildSlice (E := eRule) Tryz.underlying24 ty93 z93 (.cons (.t rfl) (.cons (.t rfl) (.cons (.t rfl) .nil))) rfl rfl (fun v63 => ?_))
      refine hdn ?_
      exact goD hH (by kernel_rfl) (by repeat first | exact Sub.nil | refine Sub.cons rfl ?_) (SubP.cons (Rem.tail Rem.head) (SubP.cons Rem.head (SubP.of sR))) (st2_21 o5 v63)
    · refine (buildSlice (E := eMeterConf) Tryz.underlying25 ty81 z81 (.cons (.t rfl) .nil) rfl rfl (fun v64 => ?_))
      refine hdn ?_
      exact goD hH (by kernel_rfl) (by repeat first | exact Sub.nil | refine Sub.cons rfl ?_) (SubP.cons (Rem.tail Rem.head) (SubP.cons Rem.head (SubP.of sR))) (st2_22 o5 v64)
    · refine (buildSlice (E := eMirrorConf) Tryz.underlying26 ty83 z83 (.cons (.t rfl) .nil) rfl rfl (fun v65 => ?_))
      refine hdn ?_
      exact goD hH (by kernel_rfl) (by repeat first | exact Sub.nil | refine Sub.cons rfl ?_) (SubP.cons (Rem.tail Rem.head) (SubP.cons Rem.head (SubP.of sR))) (st2_23 o5 v65)
  have st2_30 : ∀ (o14 : OV), Sat (⟨25, w, Nope⟩ : Ctx) (H 6 #[false, true, true, true, true, false, true, true, true, true, true, true, true, true, true, true, true, false, true, false, false, false]) [dz, (0, true, .pointer (some ⟨b1, 0, none⟩)), (1, true, .pointer (some ⟨b2, 0, none⟩)), (6, true, eRoute.val exR1), (8, true, eRoute.val exR2), (18, true, o14.v), (20, true, eMeterConf.val exM1), (22, true, eMirrorConf.val exX1)] [OwnS o14.v eRule [exU1, exU2, exU3] 93, Var b2 eMatch exWeb 91, Var b1 eConf eConf.zero 28] := by
    intro o14
    refine unH hH ?_
    refine all [0, 5, 17, 19] (by kernel_rfl) (by decide) (.cons rfl ?_ (.cons rfl ?_ (.cons rfl ?_ (.cons rfl ?_ .nil))))
    · refine (buildSlice (E := iE) Tryz.underlying22 ty3 z3 (.cons (.c (v := I 1) rfl) (.cons (.c (v := I 2) rfl) (.cons (.c (v := I 3) rfl) .nil))) rfl rfl (fun v66 => ?_))
      refine hdn ?_
      exact goD hH (by kernel_rfl) (by repeat first | exact Sub.nil | refine Sub.cons rfl ?_) (SubP.cons Rem.head (SubP.cons Rem.head (SubP.of sR))) (st2_18 v66 o14)
    · refine (buildSlice (E := eRoute) Tryz.underlying23 ty102 z102 (.cons (.t rfl) (.cons (.t rfl) .nil)) rfl rfl (fun v67 => ?_))
      refine hdn ?_
      exact goD hH (by kernel_rfl) (by repeat first | exact Sub.nil | refine Sub.cons rfl ?_) (SubP.cons Rem.head (SubP.cons Rem.head (SubP.of sR))) (st2_21 v67 o14)
    · refine (buildSlice (E := eMeterConf) Tryz.underlying25 ty81 z81 (.cons (.t rfl) .nil) rfl rfl (fun v68 => ?_))
      refine hdn ?_
      exact goD hH (by kernel_rfl) (by repeat first | exact Sub.nil | refine Sub.cons rfl ?_) (SubP.cons (Rem.tail Rem.head) (SubP.cons Rem.head (SubP.of sR))) (st2_24 o14 v68)
    · refine (buildSlice (E := eMirrorConf) Tryz.underlying26 ty83 z83 (.cons (.t rfl) .nil) rfl rfl (fun v69 => ?_))
      refine hdn ?_
      exact goD hH (by kernel_rfl) (by repeat first | exact Sub.nil | refine Sub.cons rfl ?_) (SubP.cons (Rem.tail Rem.head) (SubP.cons Rem.head (SubP.of sR))) (st2_25 o14 v69)
  have st2_31 : ∀ (o17 : OV), Sat (⟨25, w, Nope⟩ : Ctx) (H 6 #[false, true, true, true, true, false, true, true, true, true, true, true, true, true, false, true, true, true, true, false, false, false]) [dz, (0, true, .pointer (some ⟨b1, 0, none⟩)), (1, true, .pointer (some ⟨b2, 0, none⟩)), (6, true, eRoute.val exR1), (8, true, eRoute.val exR2), (11, true, eRule.val exU1), (14, true, eRule.val exU2), (17, true, eRule.val exU3), (21, true, o17.v), (22, true, eMirrorConf.val exX1)] [OwnS o17.v eMeterConf [exM1] 81, Var b2 eMatch exWeb 91, Var b1 eConf eConf.zero 28] := by
    intro o17
    refine unH hH ?_
    refine all [0, 5, 14, 19] (by kernel_rfl) (by decide) (.cons rfl ?_ (.cons rfl ?_ (.cons rfl ?_ (.cons rfl ?_ .nil))))
    · refine (buildSlice (E := iE) Tryz.underlying22 ty3 z3 (.cons (.c (v := I 1) rfl) (.cons (.c (v := I 2) rfl) (.cons (.c (v := I 3) rfl) .nil))) rfl rfl (fun v70 => ?_))
      refine hdn ?_
      exact goD hH (by kernel_rfl) (by repeat first | exact Sub.nil | refine Sub.cons rfl ?_) (SubP.cons Rem.head (SubP.cons Rem.head (SubP.of sR))) (st2_19 v70 o17)
    · refine (buildSlice (E := eRoute) Tryz.underlying23 ty102 z102 (.cons (.t rfl) (.cons (.t rfl) .nil)) rfl rfl (fun v71 => ?_))
      refine hdn ?_
      exact goD hH (by kernel_rfl) (by repeat first | exact Sub.nil | refine Sub.cons rfl ?_) (SubP.cons Rem.head (SubP.cons Rem.head (SubP.of sR))) (st2_22 v71 o17)
    · refine (buildSlice (E := eRule) Tryz.underlying24 ty93 z93 (.cons (.t rfl) (.cons (.t rfl) (.cons (.t rfl) .nil))) rfl rfl (fun v72 => ?_))
      refine hdn ?_
      exact goD hH (by kernel_rfl) (by repeat first | exact Sub.nil | refine Sub.cons rfl ?_) (SubP.cons Rem.head (SubP.cons Rem.head (SubP.of sR))) (st2_24 v72 o17)
    · refine (buildSlice (E := eMirrorConf) Tryz.underlying26 ty83 z83 (.cons (.t rfl) .nil) rfl rfl (fun v73 => ?_))
      refine hdn ?_
      exact goD hH (by kernel_rfl) (by repeat first | exact Sub.nil | refine Sub.cons rfl ?_) (SubP.cons (Rem.tail Rem.head) (SubP.cons Rem.head (SubP.of sR))) (st2_26 o17 v73)
  have st2_32 : ∀ (o19 : OV), Sat (⟨25, w, Nope⟩ : Ctx) (H 6 #[false, true, true, true, true, false, true, true, true, true, true, true, true, true, false, true, true, false, true, true, false, false]) [dz, (0, true, .pointer (some ⟨b1, 0, none⟩)), (1, true, .pointer (some ⟨b2, 0, none⟩)), (6, true, eRoute.val exR1), (8, true, eRoute.val exR2), (11, true, eRule.val exU1), (14, true, eRule.val exU2), (17, true, eRule.val exU3), (20, true, eMeterConf.val exM1), (23, true, o19.v)] [OwnS o19.v eMirrorConf [exX1] 83, Var b2 eMatch exWeb 91, Var b1 eConf eConf.zero 28] := by
    intro o19
    refine unH hH ?_
    refine all [0, 5, 14, 17] (by kernel_rfl) (by decide) (.cons rfl ?_ (.cons rfl ?_ (.cons rfl ?_ (.cons rfl ?_ .nil))))
    · refine (buildSlice (E := iE) Tryz.underlying22 ty3 z3 (.cons (.c (v := I 1) rfl) (.cons (.c (v := I 2) rfl) (.cons (.c (v := I 3) rfl) .nil))) rfl rfl (fun v74 => ?_))
      refine hdn ?_
      exact goD hH (by kernel_rfl) (by repeat first | exact Sub.nil | refine Sub.cons rfl ?_) (SubP.cons Rem.head (SubP.cons Rem.head (SubP.of sR))) (st2_20 v74 o19)
    · refine (buildSlice (E := eRoute) Tryz.underlying23 ty102 z102 (.cons (.t rfl) (.cons (.t rfl) .nil)) rfl rfl (fun v75 => ?_))
      refine hdn ?_
      exact goD hH (by kernel_rfl) (by repeat first | exact Sub.nil | refine Sub.cons rfl ?_) (SubP.cons Rem.head (SubP.cons Rem.head (SubP.of sR))) (st2_23 v75 o19)
    · refine (buildSlice (E := eRule) Tryz.underlying24 ty93 z93 (.cons (.t rfl) (.cons (.t rfl) (.cons (.t rfl) .nil))) rfl rfl (fun v76 => ?_))
      refine hdn ?_
      exact goD hH (by kernel_rfl) (by repeat first | exact Sub.nil | refine Sub.cons rfl ?_) (SubP.cons Rem.head (SubP.cons Rem.head (SubP.of sR))) (st2_25 v76 o19)
    · refine (buildSlice (E := eMeterConf) Tryz.underlying25 ty81 z81 (.cons (.t rfl) .nil) rfl rfl (fun v77 => ?_))
      refine hdn ?_
      exact goD hH (by kernel_rfl) (by repeat first | exact Sub.nil | refine Sub.cons rfl ?_) (SubP.cons Rem.head (SubP.cons Rem.head (SubP.of sR))) (st2_26 v77 o19)
  have st2_33 : ∀ (o0 : OV) (o5 : OV) (o17 : OV), Sat (⟨25, w, Nope⟩ : Ctx) (H 7 #[true, true, true, true, true, true, true, true, false, false, false, true, true, true, false, true, true, true, true, false, false, false]) [dz, (0, true, .pointer (some ⟨b1, 0, none⟩)), (1, true, .pointer (some ⟨b2, 0, none⟩)), (4, true, o0.v), (9, true, o5.v), (11, true, eRule.val exU1), (17, true, eRule.val exU3), (21, true, o17.v), (22, true, eMirrorConf.val exX1)] [OwnS o0.v iE [1, 2, 3] 3, OwnS o5.v eRoute [exR1, exR2] 102, OwnS o17.v eMeterConf [exM1] 81, Var b2 eMatch exWeb 91, Var b1 eConf eConf.zero 28] := by
    intro o0 o5 o17
    refine unH hH ?_
    refine all [8, 19] (by kernel_rfl) (by decide) (.cons rfl ?_ (.cons rfl ?_ .nil))
    · refine (callv en34 (.cons (.c (v := U8 10) rfl) (.cons (.c (v := U8 9) rfl) (.cons (.c (v := I 16) rfl) .nil))) (fun w I => four_ok _ _ _ w) ?_)
      refine hdn (tk 9 rfl (Ev.buildS (fs := _) (places := [(0, 1), (1, 2), (3, 18), (21, 18), (39, 1), (40, 2), (42, 2)]) z91 rfl Tryz.underlying91 (by kernel_rfl) (.cons (.c (v := U8 2) rfl) (.cons (.t rfl) .nil)) (Fills.cons SMatch.l_asks rfl (Fills.cons SMatch.l_src rfl Fills.nil))) ?_)
      refine tk 10 rfl (Ev.buildS (fs := _) (places := [(0, 1), (1, 44), (45, 1), (46, 1), (47, 1), (48, 1)]) z93 rfl Tryz.underlying93 (by kernel_rfl) (.cons (.c (v := (Go.Value.string (ByteArray.mk #[110, 111]))) rfl) (.cons (.t rfl) (.cons (.c (v := I 4) rfl) .nil))) (Fills.cons SRule.l_name rfl (Fills.cons SRule.l_match_ rfl (Fills.cons SRule.l_action rfl Fills.nil)))) ?_
      exact goD hH (by kernel_rfl) (by repeat first | exact Sub.nil | refine Sub.cons rfl ?_) (SubP.cons Rem.head (SubP.cons Rem.head (SubP.cons Rem.head (SubP.of sR)))) (st2_8 o0 o5 o17)
    · refine (buildSlice (E := eMirrorConf) Tryz.underlying26 ty83 z83 (.cons (.t rfl) .nil) rfl rfl (fun v78 => ?_))
      refine hdn ?_
      exact goD hH (by kernel_rfl) (by repeat first | exact Sub.nil | refine Sub.cons rfl ?_) (SubP.cons (Rem.tail Rem.head) (SubP.cons (Rem.tail Rem.head) (SubP.cons (Rem.tail Rem.head) (SubP.cons Rem.head (SubP.of sR))))) (st2_27 o0 o5 o17 v78)
  have st2_34 : ∀ (o0 : OV) (o5 : OV) (o19 : OV), Sat (⟨25, w, Nope⟩ : Ctx) (H 7 #[true, true, true, true, true, true, true, true, false, false, false, true, true, true, false, true, true, false, true, true, false, false]) [dz, (0, true, .pointer (some ⟨b1, 0, none⟩)), (1, true, .pointer (some ⟨b2, 0, none⟩)), (4, true, o0.v), (9, true, o5.v), (11, true, eRule.val exU1), (17, true, eRule.val exU3), (20, true, eMeterConf.val exM1), (23, true, o19.v)] [OwnS o0.v iE [1, 2, 3] 3, OwnS o5.v eRoute [exR1, exR2] 102, OwnS o19.v eMirrorConf [exX1] 83, Var b2 eMatch exWeb 91, Var b1 eConf eConf.zero 28] := by
    intro o0 o5 o19
    refine unH hH ?_
    refine all [8, 17] (by kernel_rfl) (by decide) (.cons rfl ?_ (.cons rfl ?_ .nil))
    · refine (callv en34 (.cons (.c (v := U8 10) rfl) (.cons (.c (v := U8 9) rfl) (.cons (.c (v := I 16) rfl) .nil))) (fun w I => four_ok _ _ _ w) ?_)
      refine hdn (tk 9 rfl (Ev.buildS (fs := _) (places := [(0, 1), (1, 2), (3, 18), (21, 18), (39, 1), (40, 2), (42, 2)]) z91 rfl Tryz.underlying91 (by kernel_rfl) (.cons (.c (v := U8 2) rfl) (.cons (.t rfl) .nil)) (Fills.cons SMatch.l_asks rfl (Fills.cons SMatch.l_src rfl Fills.nil))) ?_)
      refine tk 10 rfl (Ev.buildS (fs := _) (places := [(0, 1), (1, 44), (45, 1), (46, 1), (47, 1), (48, 1)]) z93 rfl Tryz.underlying93 (by kernel_rfl) (.cons (.c (v := (Go.Value.string (ByteArray.mk #[110, 111]))) rfl) (.cons (.t rfl) (.cons (.c (v := I 4) rfl) .nil))) (Fills.cons SRule.l_name rfl (Fills.cons SRule.l_match_ rfl (Fills.cons SRule.l_action rfl Fills.nil)))) ?_
      exact goD hH (by kernel_rfl) (by repeat first | exact Sub.nil | refine Sub.cons rfl ?_) (SubP.cons Rem.head (SubP.cons Rem.head (SubP.cons Rem.head (SubP.of sR)))) (st2_9 o0 o5 o19)
    · refine (buildSlice (E := eMeterConf) Tryz.underlying25 ty81 z81 (.cons (.t rfl) .nil) rfl rfl (fun v79 => ?_))
      refine hdn ?_
      exact goD hH (by kernel_rfl) (by repeat first | exact Sub.nil | refine Sub.cons rfl ?_) (SubP.cons (Rem.tail Rem.head) (SubP.cons (Rem.tail Rem.head) (SubP.cons Rem.head (SubP.cons Rem.head (SubP.of sR))))) (st2_27 o0 o5 v79 o19)
  have st2_35 : ∀ (o0 : OV) (o17 : OV) (o19 : OV), Sat (⟨25, w, Nope⟩ : Ctx) (H 7 #[true, true, true, true, true, false, true, true, false, false, false, true, true, true, false, true, true, true, true, true, false, false]) [dz, (0, true, .pointer (some ⟨b1, 0, none⟩)), (1, true, .pointer (some ⟨b2, 0, none⟩)), (4, true, o0.v), (6, true, eRoute.val exR1), (8, true, eRoute.val exR2), (11, true, eRule.val exU1), (17, true, eRule.val exU3), (21, true, o17.v), (23, true, o19.v)] [OwnS o0.v iE [1, 2, 3] 3, OwnS o17.v eMeterConf [exM1] 81, OwnS o19.v eMirrorConf [exX1] 83, Var b2 eMatch exWeb 91, Var b1 eConf eConf.zero 28] := by
    intro o0 o17 o19
    refine unH hH ?_
    refine all [5, 8] (by kernel_rfl) (by decide) (.cons rfl ?_ (.cons rfl ?_ .nil))
    · refine (buildSlice (E := eRoute) Tryz.underlying23 ty102 z102 (.cons (.t rfl) (.cons (.t rfl) .nil)) rfl rfl (fun v80 => ?_))
      refine hdn ?_
      exact goD hH (by kernel_rfl) (by repeat first | exact Sub.nil | refine Sub.cons rfl ?_) (SubP.cons (Rem.tail Rem.head) (SubP.cons Rem.head (SubP.cons Rem.head (SubP.cons Rem.head (SubP.of sR))))) (st2_27 o0 v80 o17 o19)
    · refine (callv en34 (.cons (.c (v := U8 10) rfl) (.cons (.c (v := U8 9) rfl) (.cons (.c (v := I 16) rfl) .nil))) (fun w I => four_ok _ _ _ w) ?_)
      refine hdn (tk 9 rfl (Ev.buildS (fs := _) (places := [(0, 1), (1, 2), (3, 18), (21, 18), (39, 1), (40, 2), (42, 2)]) z91 rfl Tryz.underlying91 (by kernel_rfl) (.cons (.c (v := U8 2) rfl) (.cons (.t rfl) .nil)) (Fills.cons SMatch.l_asks rfl (Fills.cons SMatch.l_src rfl Fills.nil))) ?_)
      refine tk 10 rfl (Ev.buildS (fs := _) (places := [(0, 1), (1, 44), (45, 1), (46, 1), (47, 1), (48, 1)]) z93 rfl Tryz.underlying93 (by kernel_rfl) (.cons (.c (v := (Go.Value.string (ByteArray.mk #[110, 111]))) rfl) (.cons (.t rfl) (.cons (.c (v := I 4) rfl) .nil))) (Fills.cons SRule.l_name rfl (Fills.cons SRule.l_match_ rfl (Fills.cons SRule.l_action rfl Fills.nil)))) ?_
      exact goD hH (by kernel_rfl) (by repeat first | exact Sub.nil | refine Sub.cons rfl ?_) (SubP.cons Rem.head (SubP.cons Rem.head (SubP.cons Rem.head (SubP.of sR)))) (st2_12 o0 o17 o19)
  have st2_36 : ∀ (o5 : OV) (o17 : OV) (o19 : OV), Sat (⟨25, w, Nope⟩ : Ctx) (H 7 #[false, true, true, true, true, true, true, true, false, false, false, true, true, true, false, true, true, true, true, true, false, false]) [dz, (0, true, .pointer (some ⟨b1, 0, none⟩)), (1, true, .pointer (some ⟨b2, 0, none⟩)), (9, true, o5.v), (11, true, eRule.val exU1), (17, true, eRule.val exU3), (21, true, o17.v), (23, true, o19.v)] [OwnS o5.v eRoute [exR1, exR2] 102, OwnS o17.v eMeterConf [exM1] 81, OwnS o19.v eMirrorConf [exX1] 83, Var b2 eMatch exWeb 91, Var b1 eConf eConf.zero 28] := by
    intro o5 o17 o19
    refine unH hH ?_
    refine all [0, 8] (by kernel_rfl) (by decide) (.cons rfl ?_ (.cons rfl ?_ .nil))
    · refine (buildSlice (E := iE) Tryz.underlying22 ty3 z3 (.cons (.c (v := I 1) rfl) (.cons (.c (v := I 2) rfl) (.cons (.c (v := I 3) rfl) .nil))) rfl rfl (fun v81 => ?_))
      refine hdn ?_
      exact goD hH (by kernel_rfl) (by repeat first | exact Sub.nil | refine Sub.cons rfl ?_) (SubP.cons Rem.head (SubP.cons Rem.head (SubP.cons Rem.head (SubP.cons Rem.head (SubP.of sR))))) (st2_27 v81 o5 o17 o19)
    · refine (callv en34 (.cons (.c (v := U8 10) rfl) (.cons (.c (v := U8 9) rfl) (.cons (.c (v := I 16) rfl) .nil))) (fun w I => four_ok _ _ _ w) ?_)
      refine hdn (tk 9 rfl (Ev.buildS (fs := _) (places := [(0, 1), (1, 2), (3, 18), (21, 18), (39, 1), (40, 2), (42, 2)]) z91 rfl Tryz.underlying91 (by kernel_rfl) (.cons (.c (v := U8 2) rfl) (.cons (.t rfl) .nil)) (Fills.cons SMatch.l_asks rfl (Fills.cons SMatch.l_src rfl Fills.nil))) ?_)
      refine tk 10 rfl (Ev.buildS (fs := _) (places := [(0, 1), (1, 44), (45, 1), (46, 1), (47, 1), (48, 1)]) z93 rfl Tryz.underlying93 (by kernel_rfl) (.cons (.c (v := (Go.Value.string (ByteArray.mk #[110, 111]))) rfl) (.cons (.t rfl) (.cons (.c (v := I 4) rfl) .nil))) (Fills.cons SRule.l_name rfl (Fills.cons SRule.l_match_ rfl (Fills.cons SRule.l_action rfl Fills.nil)))) ?_
      exact goD hH (by kernel_rfl) (by repeat first | exact Sub.nil | refine Sub.cons rfl ?_) (SubP.cons Rem.head (SubP.cons Rem.head (SubP.cons Rem.head (SubP.of sR)))) (st2_15 o5 o17 o19)
  have st2_37 : Sat (⟨25, w, Nope⟩ : Ctx) (H 7 #[false, true, true, true, true, false, true, true, true, true, true, true, true, true, false, true, true, false, true, false, false, false]) [dz, (0, true, .pointer (some ⟨b1, 0, none⟩)), (1, true, .pointer (some ⟨b2, 0, none⟩)), (6, true, eRoute.val exR1), (8, true, eRoute.val exR2), (11, true, eRule.val exU1), (14, true, eRule.val exU2), (17, true, eRule.val exU3), (20, true, eMeterConf.val exM1), (22, true, eMirrorConf.val exX1)] [Var b2 eMatch exWeb 91, Var b1 eConf eConf.zero 28] := by
    refine unH hH ?_
    refine all [0, 5, 14, 17, 19] (by kernel_rfl) (by decide) (.cons rfl ?_ (.cons rfl ?_ (.cons rfl ?_ (.cons rfl ?_ (.cons rfl ?_ .nil)))))
    · refine (buildSlice (E := iE) Tryz.underlying22 ty3 z3 (.cons (.c (v := I 1) rfl) (.cons (.c (v := I 2) rfl) (.cons (.c (v := I 3) rfl) .nil))) rfl rfl (fun v82 => ?_))
      refine hdn ?_
      exact goD hH (by kernel_rfl) (by repeat first | exact Sub.nil | refine Sub.cons rfl ?_) (SubP.cons Rem.head (SubP.of sR)) (st2_28 v82)
    · refine (buildSlice (E := eRoute) Tryz.underlying23 ty102 z102 (.cons (.t rfl) (.cons (.t rfl) .nil)) rfl rfl (fun v83 => ?_))
      refine hdn ?_
      exact goD hH (by kernel_rfl) (by repeat first | exact Sub.nil | refine Sub.cons rfl ?_) (SubP.cons Rem.head (SubP.of sR)) (st2_29 v83)
    · refine (buildSlice (E := eRule) Tryz.underlying24 ty93 z93 (.cons (.t rfl) (.cons (.t rfl) (.cons (.t rfl) .nil))) rfl rfl (fun v84 => ?_))
      refine hdn ?_
      exact goD hH (by kernel_rfl) (by repeat first | exact Sub.nil | refine Sub.cons rfl ?_) (SubP.cons Rem.head (SubP.of sR)) (st2_30 v84)
    · refine (buildSlice (E := eMeterConf) Tryz.underlying25 ty81 z81 (.cons (.t rfl) .nil) rfl rfl (fun v85 => ?_))
      refine hdn ?_
      exact goD hH (by kernel_rfl) (by repeat first | exact Sub.nil | refine Sub.cons rfl ?_) (SubP.cons Rem.head (SubP.of sR)) (st2_31 v85)
    · refine (buildSlice (E := eMirrorConf) Tryz.underlying26 ty83 z83 (.cons (.t rfl) .nil) rfl rfl (fun v86 => ?_))
      refine hdn ?_
      exact goD hH (by kernel_rfl) (by repeat first | exact Sub.nil | refine Sub.cons rfl ?_) (SubP.cons Rem.head (SubP.of sR)) (st2_32 v86)
  have st2_38 : ∀ (o0 : OV) (o5 : OV), Sat (⟨25, w, Nope⟩ : Ctx) (H 8 #[true, true, true, true, true, true, true, true, false, false, false, true, true, true, false, true, true, false, true, false, false, false]) [dz, (0, true, .pointer (some ⟨b1, 0, none⟩)), (1, true, .pointer (some ⟨b2, 0, none⟩)), (4, true, o0.v), (9, true, o5.v), (11, true, eRule.val exU1), (17, true, eRule.val exU3), (20, true, eMeterConf.val exM1), (22, true, eMirrorConf.val exX1)] [OwnS o0.v iE [1, 2, 3] 3, OwnS o5.v eRoute [exR1, exR2] 102, Var b2 eMatch exWeb 91, Var b1 eConf eConf.zero 28] := by
    intro o0 o5
    refine unH hH ?_
    refine all [8, 17, 19] (by kernel_rfl) (by decide) (.cons rfl ?_ (.cons rfl ?_ (.cons rfl ?_ .nil)))
    · refine (callv en34 (.cons (.c (v := U8 10) rfl) (.cons (.c (v := U8 9) rfl) (.cons (.c (v := I 16) rfl) .nil))) (fun w I => four_ok _ _ _ w) ?_)
      refine hdn (tk 9 rfl (Ev.buildS (fs := _) (places := [(0, 1), (1, 2), (3, 18), (21, 18), (39, 1), (40, 2), (42, 2)]) z91 rfl Tryz.underlying91 (by kernel_rfl) (.cons (.c (v := U8 2) rfl) (.cons (.t rfl) .nil)) (Fills.cons SMatch.l_asks rfl (Fills.cons SMatch.l_src rfl Fills.nil))) ?_)
      refine tk 10 rfl (Ev.buildS (fs := _) (places := [(0, 1), (1, 44), (45, 1), (46, 1), (47, 1), (48, 1)]) z93 rfl Tryz.underlying93 (by kernel_rfl) (.cons (.c (v := (Go.Value.string (ByteArray.mk #[110, 111]))) rfl) (.cons (.t rfl) (.cons (.c (v := I 4) rfl) .nil))) (Fills.cons SRule.l_name rfl (Fills.cons SRule.l_match_ rfl (Fills.cons SRule.l_action rfl Fills.nil)))) ?_
      exact goD hH (by kernel_rfl) (by repeat first | exact Sub.nil | refine Sub.cons rfl ?_) (SubP.cons Rem.head (SubP.cons Rem.head (SubP.of sR))) (st2_17 o0 o5)
    · refine (buildSlice (E := eMeterConf) Tryz.underlying25 ty81 z81 (.cons (.t rfl) .nil) rfl rfl (fun v87 => ?_))
      refine hdn ?_
      exact goD hH (by kernel_rfl) (by repeat first | exact Sub.nil | refine Sub.cons rfl ?_) (SubP.cons (Rem.tail Rem.head) (SubP.cons (Rem.tail Rem.head) (SubP.cons Rem.head (SubP.of sR)))) (st2_33 o0 o5 v87)
    · refine (buildSlice (E := eMirrorConf) Tryz.underlying26 ty83 z83 (.cons (.t rfl) .nil) rfl rfl (fun v88 => ?_))
      refine hdn ?_
      exact goD hH (by kernel_rfl) (by repeat first | exact Sub.nil | refine Sub.cons rfl ?_) (SubP.cons (Rem.tail Rem.head) (SubP.cons (Rem.tail Rem.head) (SubP.cons Rem.head (SubP.of sR)))) (st2_34 o0 o5 v88)
  have st2_39 : ∀ (o0 : OV) (o17 : OV), Sat (⟨25, w, Nope⟩ : Ctx) (H 8 #[true, true, true, true, true, false, true, true, false, false, false, true, true, true, false, true, true, true, true, false, false, false]) [dz, (0, true, .pointer (some ⟨b1, 0, none⟩)), (1, true, .pointer (some ⟨b2, 0, none⟩)), (4, true, o0.v), (6, true, eRoute.val exR1), (8, true, eRoute.val exR2), (11, true, eRule.val exU1), (17, true, eRule.val exU3), (21, true, o17.v), (22, true, eMirrorConf.val exX1)] [OwnS o0.v iE [1, 2, 3] 3, OwnS o17.v eMeterConf [exM1] 81, Var b2 eMatch exWeb 91, Var b1 eConf eConf.zero 28] := by
    intro o0 o17
    refine unH hH ?_
    refine all [5, 8, 19] (by kernel_rfl) (by decide) (.cons rfl ?_ (.cons rfl ?_ (.cons rfl ?_ .nil)))
    · refine (buildSlice (E := eRoute) Tryz.underlying23 ty102 z102 (.cons (.t rfl) (.cons (.t rfl) .nil)) rfl rfl (fun v89 => ?_))
      refine hdn ?_
      exact goD hH (by kernel_rfl) (by repeat first | exact Sub.nil | refine Sub.cons rfl ?_) (SubP.cons (Rem.tail Rem.head) (SubP.cons Rem.head (SubP.cons Rem.head (SubP.of sR)))) (st2_33 o0 v89 o17)
    · refine (callv en34 (.cons (.c (v := U8 10) rfl) (.cons (.c (v := U8 9) rfl) (.cons (.c (v := I 16) rfl) .nil))) (fun w I => four_ok _ _ _ w) ?_)
      refine hdn (tk 9 rfl (Ev.buildS (fs := _) (places := [(0, 1), (1, 2), (3, 18), (21, 18), (39, 1), (40, 2), (42, 2)]) z91 rfl Tryz.underlying91 (by kernel_rfl) (.cons (.c (v := U8 2) rfl) (.cons (.t rfl) .nil)) (Fills.cons SMatch.l_asks rfl (Fills.cons SMatch.l_src rfl Fills.nil))) ?_)
      refine tk 10 rfl (Ev.buildS (fs := _) (places := [(0, 1), (1, 44), (45, 1), (46, 1), (47, 1), (48, 1)]) z93 rfl Tryz.underlying93 (by kernel_rfl) (.cons (.c (v := (Go.Value.string (ByteArray.mk #[110, 111]))) rfl) (.cons (.t rfl) (.cons (.c (v := I 4) rfl) .nil))) (Fills.cons SRule.l_name rfl (Fills.cons SRule.l_match_ rfl (Fills.cons SRule.l_action rfl Fills.nil)))) ?_
      exact goD hH (by kernel_rfl) (by repeat first | exact Sub.nil | refine Sub.cons rfl ?_) (SubP.cons Rem.head (SubP.cons Rem.head (SubP.of sR))) (st2_19 o0 o17)
    · refine (buildSlice (E := eMirrorConf) Tryz.underlying26 ty83 z83 (.cons (.t rfl) .nil) rfl rfl (fun v90 => ?_))
      refine hdn ?_
      exact goD hH (by kernel_rfl) (by repeat first | exact Sub.nil | refine Sub.cons rfl ?_) (SubP.cons (Rem.tail Rem.head) (SubP.cons (Rem.tail Rem.head) (SubP.cons Rem.head (SubP.of sR)))) (st2_35 o0 o17 v90)
  have st2_40 : ∀ (o0 : OV) (o19 : OV), Sat (⟨25, w, Nope⟩ : Ctx) (H 8 #[true, true, true, true, true, false, true, true, false, false, false, true, true, true, false, true, true, false, true, true, false, false]) [dz, (0, true, .pointer (some ⟨b1, 0, none⟩)), (1, true, .pointer (some ⟨b2, 0, none⟩)), (4, true, o0.v), (6, true, eRoute.val exR1), (8, true, eRoute.val exR2), (11, true, eRule.val exU1), (17, true, eRule.val exU3), (20, true, eMeterConf.val exM1), (23, true, o19.v)] [OwnS o0.v iE [1, 2, 3] 3, OwnS o19.v eMirrorConf [exX1] 83, Var b2 eMatch exWeb 91, Var b1 eConf eConf.zero 28] := by
    intro o0 o19
    refine unH hH ?_
    refine all [5, 8, 17] (by kernel_rfl) (by decide) (.cons rfl ?_ (.cons rfl ?_ (.cons rfl ?_ .nil)))
    · refine (buildSlice (E := eRoute) Tryz.underlying23 ty102 z102 (.cons (.t rfl) (.cons (.t rfl) .nil)) rfl rfl (fun v91 => ?_))
      refine hdn ?_
      exact goD hH (by kernel_rfl) (by repeat first | exact Sub.nil | refine Sub.cons rfl ?_) (SubP.cons (Rem.tail Rem.head) (SubP.cons Rem.head (SubP.cons Rem.head (SubP.of sR)))) (st2_34 o0 v91 o19)
    · refine (callv en34 (.cons (.c (v := U8 10) rfl) (.cons (.c (v := U8 9) rfl) (.cons (.c (v := I 16) rfl) .nil))) (fun w I => four_ok _ _ _ w) ?_)
      refine hdn (tk 9 rfl (Ev.buildS (fs := _) (places := [(0, 1), (1, 2), (3, 18), (21, 18), (39, 1), (40, 2), (42, 2)]) z91 rfl Tryz.underlying91 (by kernel_rfl) (.cons (.c (v := U8 2) rfl) (.cons (.t rfl) .nil)) (Fills.cons SMatch.l_asks rfl (Fills.cons SMatch.l_src rfl Fills.nil))) ?_)
      refine tk 10 rfl (Ev.buildS (fs := _) (places := [(0, 1), (1, 44), (45, 1), (46, 1), (47, 1), (48, 1)]) z93 rfl Tryz.underlying93 (by kernel_rfl) (.cons (.c (v := (Go.Value.string (ByteArray.mk #[110, 111]))) rfl) (.cons (.t rfl) (.cons (.c (v := I 4) rfl) .nil))) (Fills.cons SRule.l_name rfl (Fills.cons SRule.l_match_ rfl (Fills.cons SRule.l_action rfl Fills.nil)))) ?_
      exact goD hH (by kernel_rfl) (by repeat first | exact Sub.nil | refine Sub.cons rfl ?_) (SubP.cons Rem.head (SubP.cons Rem.head (SubP.of sR))) (st2_20 o0 o19)
    · refine (buildSlice (E := eMeterConf) Tryz.underlying25 ty81 z81 (.cons (.t rfl) .nil) rfl rfl (fun v92 => ?_))
      refine hdn ?_
      exact goD hH (by kernel_rfl) (by repeat first | exact Sub.nil | refine Sub.cons rfl ?_) (SubP.cons (Rem.tail Rem.head) (SubP.cons Rem.head (SubP.cons Rem.head (SubP.of sR)))) (st2_35 o0 v92 o19)
  have st2_41 : ∀ (o5 : OV) (o17 : OV), Sat (⟨25, w, Nope⟩ : Ctx) (H 8 #[false, true, true, true, true, true, true, true, false, false, false, true, true, true, false, true, true, true, true, false, false, false]) [dz, (0, true, .pointer (some ⟨b1, 0, none⟩)), (1, true, .pointer (some ⟨b2, 0, none⟩)), (9, true, o5.v), (11, true, eRule.val exU1), (17, true, eRule.val exU3), (21, true, o17.v), (22, true, eMirrorConf.val exX1)] [OwnS o5.v eRoute [exR1, exR2] 102, OwnS o17.v eMeterConf [exM1] 81, Var b2 eMatch exWeb 91, Var b1 eConf eConf.zero 28] := by
    intro o5 o17
    refine unH hH ?_
    refine all [0, 8, 19] (by kernel_rfl) (by decide) (.cons rfl ?_ (.cons rfl ?_ (.cons rfl ?_ .nil)))
    · refine (buildSlice (E := iE) Tryz.underlying22 ty3 z3 (.cons (.c (v := I 1) rfl) (.cons (.c (v := I 2) rfl) (.cons (.c (v := I 3) rfl) .nil))) rfl rfl (fun v93 => ?_))
      refine hdn ?_
      exact goD hH (by kernel_rfl) (by repeat first | exact Sub.nil | refine Sub.cons rfl ?_) (SubP.cons Rem.head (SubP.cons Rem.head (SubP.cons Rem.head (SubP.of sR)))) (st2_33 v93 o5 o17)
    · refine (callv en34 (.cons (.c (v := U8 10) rfl) (.cons (.c (v := U8 9) rfl) (.cons (.c (v := I 16) rfl) .nil))) (fun w I => four_ok _ _ _ w) ?_)
      refine hdn (tk 9 rfl (Ev.buildS (fs := _) (places := [(0, 1), (1, 2), (3, 18), (21, 18), (39, 1), (40, 2), (42, 2)]) z91 rfl Tryz.underlying91 (by kernel_rfl) (.cons (.c (v := U8 2) rfl) (.cons (.t rfl) .nil)) (Fills.cons SMatch.l_asks rfl (Fills.cons SMatch.l_src rfl Fills.nil))) ?_)
      refine tk 10 rfl (Ev.buildS (fs := _) (places := [(0, 1), (1, 44), (45, 1), (46, 1), (47, 1), (48, 1)]) z93 rfl Tryz.underlying93 (by kernel_rfl) (.cons (.c (v := (Go.Value.string (ByteArray.mk #[110, 111]))) rfl) (.cons (.t rfl) (.cons (.c (v := I 4) rfl) .nil))) (Fills.cons SRule.l_name rfl (Fills.cons SRule.l_match_ rfl (Fills.cons SRule.l_action rfl Fills.nil)))) ?_
      exact goD hH (by kernel_rfl) (by repeat first | exact Sub.nil | refine Sub.cons rfl ?_) (SubP.cons Rem.head (SubP.cons Rem.head (SubP.of sR))) (st2_22 o5 o17)
    · refine (buildSlice (E := eMirrorConf) Tryz.underlying26 ty83 z83 (.cons (.t rfl) .nil) rfl rfl (fun v94 => ?_))
      refine hdn ?_
      exact goD hH (by kernel_rfl) (by repeat first | exact Sub.nil | refine Sub.cons rfl ?_) (SubP.cons (Rem.tail Rem.head) (SubP.cons (Rem.tail Rem.head) (SubP.cons Rem.head (SubP.of sR)))) (st2_36 o5 o17 v94)
  have st2_42 : ∀ (o5 : OV) (o19 : OV), Sat (⟨25, w, Nope⟩ : Ctx) (H 8 #[false, true, true, true, true, true, true, true, false, false, false, true, true, true, false, true, true, false, true, true, false, false]) [dz, (0, true, .pointer (some ⟨b1, 0, none⟩)), (1, true, .pointer (some ⟨b2, 0, none⟩)), (9, true, o5.v), (11, true, eRule.val exU1), (17, true, eRule.val exU3), (20, true, eMeterConf.val exM1), (23, true, o19.v)] [OwnS o5.v eRoute [exR1, exR2] 102, OwnS o19.v eMirrorConf [exX1] 83, Var b2 eMatch exWeb 91, Var b1 eConf eConf.zero 28] := by
    intro o5 o19
    refine unH hH ?_
    refine all [0, 8, 17] (by kernel_rfl) (by decide) (.cons rfl ?_ (.cons rfl ?_ (.cons rfl ?_ .nil)))
    · refine (buildSlice (E := iE) Tryz.underlying22 ty3 z3 (.cons (.c (v := I 1) rfl) (.cons (.c (v := I 2) rfl) (.cons (.c (v := I 3) rfl) .nil))) rfl rfl (fun v95 => ?_))
      refine hdn ?_
      exact goD hH (by kernel_rfl) (by repeat first | exact Sub.nil | refine Sub.cons rfl ?_) (SubP.cons Rem.head (SubP.cons Rem.head (SubP.cons Rem.head (SubP.of sR)))) (st2_34 v95 o5 o19)
    · refine (callv en34 (.cons (.c (v := U8 10) rfl) (.cons (.c (v := U8 9) rfl) (.cons (.c (v := I 16) rfl) .nil))) (fun w I => four_ok _ _ _ w) ?_)
      refine hdn (tk 9 rfl (Ev.buildS (fs := _) (places := [(0, 1), (1, 2), (3, 18), (21, 18), (39, 1), (40, 2), (42, 2)]) z91 rfl Tryz.underlying91 (by kernel_rfl) (.cons (.c (v := U8 2) rfl) (.cons (.t rfl) .nil)) (Fills.cons SMatch.l_asks rfl (Fills.cons SMatch.l_src rfl Fills.nil))) ?_)
      refine tk 10 rfl (Ev.buildS (fs := _) (places := [(0, 1), (1, 44), (45, 1), (46, 1), (47, 1), (48, 1)]) z93 rfl Tryz.underlying93 (by kernel_rfl) (.cons (.c (v := (Go.Value.string (ByteArray.mk #[110, 111]))) rfl) (.cons (.t rfl) (.cons (.c (v := I 4) rfl) .nil))) (Fills.cons SRule.l_name rfl (Fills.cons SRule.l_match_ rfl (Fills.cons SRule.l_action rfl Fills.nil)))) ?_
      exact goD hH (by kernel_rfl) (by repeat first | exact Sub.nil | refine Sub.cons rfl ?_) (SubP.cons Rem.head (SubP.cons Rem.head (SubP.of sR))) (st2_23 o5 o19)
    · refine (buildSlice (E := eMeterConf) Tryz.underlying25 ty81 z81 (.cons (.t rfl) .nil) rfl rfl (fun v96 => ?_))
      refine hdn ?_
      exact goD hH (by kernel_rfl) (by repeat first | exact Sub.nil | refine Sub.cons rfl ?_) (SubP.cons (Rem.tail Rem.head) (SubP.cons Rem.head (SubP.cons Rem.head (SubP.of sR)))) (st2_36 o5 v96 o19)
  have st2_43 : ∀ (o17 : OV) (o19 : OV), Sat (⟨25, w, Nope⟩ : Ctx) (H 8 #[false, true, true, true, true, false, true, true, false, false, false, true, true, true, false, true, true, true, true, true, false, false]) [dz, (0, true, .pointer (some ⟨b1, 0, none⟩)), (1, true, .pointer (some ⟨b2, 0, none⟩)), (6, true, eRoute.val exR1), (8, true, eRoute.val exR2), (11, true, eRule.val exU1), (17, true, eRule.val exU3), (21, true, o17.v), (23, true, o19.v)] [OwnS o17.v eMeterConf [exM1] 81, OwnS o19.v eMirrorConf [exX1] 83, Var b2 eMatch exWeb 91, Var b1 eConf eConf.zero 28] := by
    intro o17 o19
    refine unH hH ?_
    refine all [0, 5, 8] (by kernel_rfl) (by decide) (.cons rfl ?_ (.cons rfl ?_ (.cons rfl ?_ .nil)))
    · refine (buildSlice (E := iE) Tryz.underlying22 ty3 z3 (.cons (.c (v := I 1) rfl) (.cons (.c (v := I 2) rfl) (.cons (.c (v := I 3) rfl) .nil))) rfl rfl (fun v97 => ?_))
      refine hdn ?_
      exact goD hH (by kernel_rfl) (by repeat first | exact Sub.nil | refine Sub.cons rfl ?_) (SubP.cons Rem.head (SubP.cons Rem.head (SubP.cons Rem.head (SubP.of sR)))) (st2_35 v97 o17 o19)
    · refine (buildSlice (E := eRoute) Tryz.underlying23 ty102 z102 (.cons (.t rfl) (.cons (.t rfl) .nil)) rfl rfl (fun v98 => ?_))
      refine hdn ?_
      exact goD hH (by kernel_rfl) (by repeat first | exact Sub.nil | refine Sub.cons rfl ?_) (SubP.cons Rem.head (SubP.cons Rem.head (SubP.cons Rem.head (SubP.of sR)))) (st2_36 v98 o17 o19)
    · refine (callv en34 (.cons (.c (v := U8 10) rfl) (.cons (.c (v := U8 9) rfl) (.cons (.c (v := I 16) rfl) .nil))) (fun w I => four_ok _ _ _ w) ?_)
      refine hdn (tk 9 rfl (Ev.buildS (fs := _) (places := [(0, 1), (1, 2), (3, 18), (21, 18), (39, 1), (40, 2), (42, 2)]) z91 rfl Tryz.underlying91 (by kernel_rfl) (.cons (.c (v := U8 2) rfl) (.cons (.t rfl) .nil)) (Fills.cons SMatch.l_asks rfl (Fills.cons SMatch.l_src rfl Fills.nil))) ?_)
      refine tk 10 rfl (Ev.buildS (fs := _) (places := [(0, 1), (1, 44), (45, 1), (46, 1), (47, 1), (48, 1)]) z93 rfl Tryz.underlying93 (by kernel_rfl) (.cons (.c (v := (Go.Value.string (ByteArray.mk #[110, 111]))) rfl) (.cons (.t rfl) (.cons (.c (v := I 4) rfl) .nil))) (Fills.cons SRule.l_name rfl (Fills.cons SRule.l_match_ rfl (Fills.cons SRule.l_action rfl Fills.nil)))) ?_
      exact goD hH (by kernel_rfl) (by repeat first | exact Sub.nil | refine Sub.cons rfl ?_) (SubP.cons Rem.head (SubP.cons Rem.head (SubP.of sR))) (st2_26 o17 o19)
  have st2_44 : ∀ (o0 : OV), Sat (⟨25, w, Nope⟩ : Ctx) (H 9 #[true, true, true, true, true, false, true, true, false, false, false, true, true, true, false, true, true, false, true, false, false, false]) [dz, (0, true, .pointer (some ⟨b1, 0, none⟩)), (1, true, .pointer (some ⟨b2, 0, none⟩)), (4, true, o0.v), (6, true, eRoute.val exR1), (8, true, eRoute.val exR2), (11, true, eRule.val exU1), (17, true, eRule.val exU3), (20, true, eMeterConf.val exM1), (22, true, eMirrorConf.val exX1)] [OwnS o0.v iE [1, 2, 3] 3, Var b2 eMatch exWeb 91, Var b1 eConf eConf.zero 28] := by
    intro o0
    refine unH hH ?_
    refine all [5, 8, 17, 19] (by kernel_rfl) (by decide) (.cons rfl ?_ (.cons rfl ?_ (.cons rfl ?_ (.cons rfl ?_ .nil))))
    · refine (buildSlice (E := eRoute) Tryz.underlying23 ty102 z102 (.cons (.t rfl) (.cons (.t rfl) .nil)) rfl rfl (fun v99 => ?_))
      refine hdn ?_
      exact goD hH (by kernel_rfl) (by repeat first | exact Sub.nil | refine Sub.cons rfl ?_) (SubP.cons (Rem.tail Rem.head) (SubP.cons Rem.head (SubP.of sR))) (st2_38 o0 v99)
    · refine (callv en34 (.cons (.c (v := U8 10) rfl) (.cons (.c (v := U8 9) rfl) (.cons (.c (v := I 16) rfl) .nil))) (fun w I => four_ok _ _ _ w) ?_)
      refine hdn (tk 9 rfl (Ev.buildS (fs := _) (places := [(0, 1), (1, 2), (3, 18), (21, 18), (39, 1), (40, 2), (42, 2)]) z91 rfl Tryz.underlying91 (by kernel_rfl) (.cons (.c (v := U8 2) rfl) (.cons (.t rfl) .nil)) (Fills.cons SMatch.l_asks rfl (Fills.cons SMatch.l_src rfl Fills.nil))) ?_)
      refine tk 10 rfl (Ev.buildS (fs := _) (places := [(0, 1), (1, 44), (45, 1), (46, 1), (47, 1), (48, 1)]) z93 rfl Tryz.underlying93 (by kernel_rfl) (.cons (.c (v := (Go.Value.string (ByteArray.mk #[110, 111]))) rfl) (.cons (.t rfl) (.cons (.c (v := I 4) rfl) .nil))) (Fills.cons SRule.l_name rfl (Fills.cons SRule.l_match_ rfl (Fills.cons SRule.l_action rfl Fills.nil)))) ?_
      exact goD hH (by kernel_rfl) (by repeat first | exact Sub.nil | refine Sub.cons rfl ?_) (SubP.cons Rem.head (SubP.of sR)) (st2_28 o0)
    · refine (buildSlice (E := eMeterConf) Tryz.underlying25 ty81 z81 (.cons (.t rfl) .nil) rfl rfl (fun v100 => ?_))
      refine hdn ?_
      exact goD hH (by kernel_rfl) (by repeat first | exact Sub.nil | refine Sub.cons rfl ?_) (SubP.cons (Rem.tail Rem.head) (SubP.cons Rem.head (SubP.of sR))) (st2_39 o0 v100)
    · refine (buildSlice (E := eMirrorConf) Tryz.underlying26 ty83 z83 (.cons (.t rfl) .nil) rfl rfl (fun v101 => ?_))
      refine hdn ?_
      exact goD hH (by kernel_rfl) (by repeat first | exact Sub.nil | refine Sub.cons rfl ?_) (SubP.cons (Rem.tail Rem.head) (SubP.cons Rem.head (SubP.of sR))) (st2_40 o0 v101)
  have st2_45 : ∀ (o0 : OV) (o17 : OV) (o19 : OV), Sat (⟨25, w, Nope⟩ : Ctx) (H 9 #[true, true, true, false, false, false, true, true, false, false, false, true, true, true, false, true, true, true, true, true, false, false]) [dz, (0, true, .pointer (some ⟨b1, 0, none⟩)), (1, true, .pointer (some ⟨b2, 0, none⟩)), (4, true, o0.v), (6, true, eRoute.val exR1), (11, true, eRule.val exU1), (17, true, eRule.val exU3), (21, true, o17.v), (23, true, o19.v)] [OwnS o0.v iE [1, 2, 3] 3, OwnS o17.v eMeterConf [exM1] 81, OwnS o19.v eMirrorConf [exX1] 83, Var b2 eMatch exWeb 91, Var b1 eConf eConf.zero 28] := by
    intro o0 o17 o19
    refine unH hH ?_
    refine al1 3 rfl ((callv en34 (.cons (.c (v := U8 10) rfl) (.cons (.c (v := U8 1) rfl) (.cons (.c (v := I 16) rfl) .nil))) (fun w I => four_ok _ _ _ w) ?_))
    refine hdn (tk 4 rfl (Ev.buildS (fs := _) (places := [(0, 18), (18, 1)]) z102 rfl Tryz.underlying102 (by kernel_rfl) (.cons (.t rfl) (.cons (.c (v := I 3) rfl) .nil)) (Fills.cons SRoute.l_to_ rfl (Fills.cons SRoute.l_out rfl Fills.nil))) ?_)
    exact goD hH (by kernel_rfl) (by repeat first | exact Sub.nil | refine Sub.cons rfl ?_) (SubP.cons Rem.head (SubP.cons Rem.head (SubP.cons Rem.head (SubP.of sR)))) (st2_35 o0 o17 o19)
  have st2_46 : ∀ (o5 : OV), Sat (⟨25, w, Nope⟩ : Ctx) (H 9 #[false, true, true, true, true, true, true, true, false, false, false, true, true, true, false, true, true, false, true, false, false, false]) [dz, (0, true, .pointer (some ⟨b1, 0, none⟩)), (1, true, .pointer (some ⟨b2, 0, none⟩)), (9, true, o5.v), (11, true, eRule.val exU1), (17, true, eRule.val exU3), (20, true, eMeterConf.val exM1), (22, true, eMirrorConf.val exX1)] [OwnS o5.v eRoute [exR1, exR2] 102, Var b2 eMatch exWeb 91, Var b1 eConf eConf.zero 28] := by
    intro o5
    refine unH hH ?_
    refine all [0, 8, 17, 19] (by kernel_rfl) (by decide) (.cons rfl ?_ (.cons rfl ?_ (.cons rfl ?_ (.cons rfl ?_ .nil))))
    · refine (buildSlice (E := iE) Tryz.underlying22 ty3 z3 (.cons (.c (v := I 1) rfl) (.cons (.c (v := I 2) rfl) (.cons (.c (v := I 3) rfl) .nil))) rfl rfl (fun v102 => ?_))
      refine hdn ?_
      exact goD hH (by kernel_rfl) (by repeat first | exact Sub.nil | refine Sub.cons rfl ?_) (SubP.cons Rem.head (SubP.cons Rem.head (SubP.of sR))) (st2_38 v102 o5)
    · refine (callv en34 (.cons (.c (v := U8 10) rfl) (.cons (.c (v := U8 9) rfl) (.cons (.c (v := I 16) rfl) .nil))) (fun w I => four_ok _ _ _ w) ?_)
      refine hdn (tk 9 rfl (Ev.buildS (fs := _) (places := [(0, 1), (1, 2), (3, 18), (21, 18), (39, 1), (40, 2), (42, 2)]) z91 rfl Tryz.underlying91 (by kernel_rfl) (.cons (.c (v := U8 2) rfl) (.cons (.t rfl) .nil)) (Fills.cons SMatch.l_asks rfl (Fills.cons SMatch.l_src rfl Fills.nil))) ?_)
      refine tk 10 rfl (Ev.buildS (fs := _) (places := [(0, 1), (1, 44), (45, 1), (46, 1), (47, 1), (48, 1)]) z93 rfl Tryz.underlying93 (by kernel_rfl) (.cons (.c (v := (Go.Value.string (ByteArray.mk #[110, 111]))) rfl) (.cons (.t rfl) (.cons (.c (v := I 4) rfl) .nil))) (Fills.cons SRule.l_name rfl (Fills.cons SRule.l_match_ rfl (Fills.cons SRule.l_action rfl Fills.nil)))) ?_
      exact goD hH (by kernel_rfl) (by repeat first | exact Sub.nil | refine Sub.cons rfl ?_) (SubP.cons Rem.head (SubP.of sR)) (st2_29 o5)
    · refine (buildSlice (E := eMeterConf) Tryz.underlying25 ty81 z81 (.cons (.t rfl) .nil) rfl rfl (fun v103 => ?_))
      refine hdn ?_
      exact goD hH (by kernel_rfl) (by repeat first | exact Sub.nil | refine Sub.cons rfl ?_) (SubP.cons (Rem.tail Rem.head) (SubP.cons Rem.head (SubP.of sR))) (st2_41 o5 v103)
    · refine (buildSlice (E := eMirrorConf) Tryz.underlying26 ty83 z83 (.cons (.t rfl) .nil) rfl rfl (fun v104 => ?_))
      refine hdn ?_
      exact goD hH (by kernel_rfl) (by repeat first | exact Sub.nil | refine Sub.cons rfl ?_) (SubP.cons (Rem.tail Rem.head) (SubP.cons Rem.head (SubP.of sR))) (st2_42 o5 v104)
  have st2_47 : ∀ (o17 : OV), Sat (⟨25, w, Nope⟩ : Ctx) (H 9 #[false, true, true, true, true, false, true, true, false, false, false, true, true, true, false, true, true, true, true, false, false, false]) [dz, (0, true, .pointer (some ⟨b1, 0, none⟩)), (1, true, .pointer (some ⟨b2, 0, none⟩)), (6, true, eRoute.val exR1), (8, true, eRoute.val exR2), (11, true, eRule.val exU1), (17, true, eRule.val exU3), (21, true, o17.v), (22, true, eMirrorConf.val exX1)] [OwnS o17.v eMeterConf [exM1] 81, Var b2 eMatch exWeb 91, Var b1 eConf eConf.zero 28] := by
    intro o17
    refine unH hH ?_
    refine all [0, 5, 8, 19] (by kernel_rfl) (by decide) (.cons rfl ?_ (.cons rfl ?_ (.cons rfl ?_ (.cons rfl ?_ .nil))))
    · refine (buildSlice (E := iE) Tryz.underlying22 ty3 z3 (.cons (.c (v := I 1) rfl) (.cons (.c (v := I 2) rfl) (.cons (.c (v := I 3) rfl) .nil))) rfl rfl (fun v105 => ?_))
      refine hdn ?_
      exact goD hH (by kernel_rfl) (by repeat first | exact Sub.nil | refine Sub.cons rfl ?_) (SubP.cons Rem.head (SubP.cons Rem.head (SubP.of sR))) (st2_39 v105 o17)
    · refine (buildSlice (E := eRoute) Tryz.underlying23 ty102 z102 (.cons (.t rfl) (.cons (.t rfl) .nil)) rfl rfl (fun v106 => ?_))
      refine hdn ?_
      exact goD hH (by kernel_rfl) (by repeat first | exact Sub.nil | refine Sub.cons rfl ?_) (SubP.cons Rem.head (SubP.cons Rem.head (SubP.of sR))) (st2_41 v106 o17)
    · refine (callv en34 (.cons (.c (v := U8 10) rfl) (.cons (.c (v := U8 9) rfl) (.cons (.c (v := I 16) rfl) .nil))) (fun w I => four_ok _ _ _ w) ?_)
      refine hdn (tk 9 rfl (Ev.buildS (fs := _) (places := [(0, 1), (1, 2), (3, 18), (21, 18), (39, 1), (40, 2), (42, 2)]) z91 rfl Tryz.underlying91 (by kernel_rfl) (.cons (.c (v := U8 2) rfl) (.cons (.t rfl) .nil)) (Fills.cons SMatch.l_asks rfl (Fills.cons SMatch.l_src rfl Fills.nil))) ?_)
      refine tk 10 rfl (Ev.buildS (fs := _) (places := [(0, 1), (1, 44), (45, 1), (46, 1), (47, 1), (48, 1)]) z93 rfl Tryz.underlying93 (by kernel_rfl) (.cons (.c (v := (Go.Value.string (ByteArray.mk #[110, 111]))) rfl) (.cons (.t rfl) (.cons (.c (v := I 4) rfl) .nil))) (Fills.cons SRule.l_name rfl (Fills.cons SRule.l_match_ rfl (Fills.cons SRule.l_action rfl Fills.nil)))) ?_
      exact goD hH (by kernel_rfl) (by repeat first | exact Sub.nil | refine Sub.cons rfl ?_) (SubP.cons Rem.head (SubP.of sR)) (st2_31 o17)
    · refine (buildSlice (E := eMirrorConf) Tryz.underlying26 ty83 z83 (.cons (.t rfl) .nil) rfl rfl (fun v107 => ?_))
      refine hdn ?_
      exact goD hH (by kernel_rfl) (by repeat first | exact Sub.nil | refine Sub.cons rfl ?_) (SubP.cons (Rem.tail Rem.head) (SubP.cons Rem.head (SubP.of sR))) (st2_43 o17 v107)
  have st2_48 : ∀ (o19 : OV), Sat (⟨25, w, Nope⟩ : Ctx) (H 9 #[false, true, true, true, true, false, true, true, false, false, false, true, true, true, false, true, true, false, true, true, false, false]) [dz, (0, true, .pointer (some ⟨b1, 0, none⟩)), (1, true, .pointer (some ⟨b2, 0, none⟩)), (6, true, eRoute.val exR1), (8, true, eRoute.val exR2), (11, true, eRule.val exU1), (17, true, eRule.val exU3), (20, true, eMeterConf.val exM1), (23, true, o19.v)] [OwnS o19.v eMirrorConf [exX1] 83, Var b2 eMatch exWeb 91, Var b1 eConf eConf.zero 28] := by
    intro o19
    refine unH hH ?_
    refine all [0, 5, 8, 17] (by kernel_rfl) (by decide) (.cons rfl ?_ (.cons rfl ?_ (.cons rfl ?_ (.cons rfl ?_ .nil))))
    · refine (buildSlice (E := iE) Tryz.underlying22 ty3 z3 (.cons (.c (v := I 1) rfl) (.cons (.c (v := I 2) rfl) (.cons (.c (v := I 3) rfl) .nil))) rfl rfl (fun v108 => ?_))
      refine hdn ?_
      exact goD hH (by kernel_rfl) (by repeat first | exact Sub.nil | refine Sub.cons rfl ?_) (SubP.cons Rem.head (SubP.cons Rem.head (SubP.of sR))) (st2_40 v108 o19)
    · refine (buildSlice (E := eRoute) Tryz.underlying23 ty102 z102 (.cons (.t rfl) (.cons (.t rfl) .nil)) rfl rfl (fun v109 => ?_))
      refine hdn ?_
      exact goD hH (by kernel_rfl) (by repeat first | exact Sub.nil | refine Sub.cons rfl ?_) (SubP.cons Rem.head (SubP.cons Rem.head (SubP.of sR))) (st2_42 v109 o19)
    · refine (callv en34 (.cons (.c (v := U8 10) rfl) (.cons (.c (v := U8 9) rfl) (.cons (.c (v := I 16) rfl) .nil))) (fun w I => four_ok _ _ _ w) ?_)
      refine hdn (tk 9 rfl (Ev.buildS (fs := _) (places := [(0, 1), (1, 2), (3, 18), (21, 18), (39, 1), (40, 2), (42, 2)]) z91 rfl Tryz.underlying91 (by kernel_rfl) (.cons (.c (v := U8 2) rfl) (.cons (.t rfl) .nil)) (Fills.cons SMatch.l_asks rfl (Fills.cons SMatch.l_src rfl Fills.nil))) ?_)
      refine tk 10 rfl (Ev.buildS (fs := _) (places := [(0, 1), (1, 44), (45, 1), (46, 1), (47, 1), (48, 1)]) z93 rfl Tryz.underlying93 (by kernel_rfl) (.cons (.c (v := (Go.Value.string (ByteArray.mk #[110, 111]))) rfl) (.cons (.t rfl) (.cons (.c (v := I 4) rfl) .nil))) (Fills.cons SRule.l_name rfl (Fills.cons SRule.l_match_ rfl (Fills.cons SRule.l_action rfl Fills.nil)))) ?_
      exact goD hH (by kernel_rfl) (by repeat first | exact Sub.nil | refine Sub.cons rfl ?_) (SubP.cons Rem.head (SubP.of sR)) (st2_32 o19)
    · refine (buildSlice (E := eMeterConf) Tryz.underlying25 ty81 z81 (.cons (.t rfl) .nil) rfl rfl (fun v110 => ?_))
      refine hdn ?_
      exact goD hH (by kernel_rfl) (by repeat first | exact Sub.nil | refine Sub.cons rfl ?_) (SubP.cons Rem.head (SubP.cons Rem.head (SubP.of sR))) (st2_43 v110 o19)
  have st2_49 : ∀ (o0 : OV) (o17 : OV), Sat (⟨25, w, Nope⟩ : Ctx) (H 10 #[true, true, true, false, false, false, true, true, false, false, false, true, true, true, false, true, true, true, true, false, false, false]) [dz, (0, true, .pointer (some ⟨b1, 0, none⟩)), (1, true, .pointer (some ⟨b2, 0, none⟩)), (4, true, o0.v), (6, true, eRoute.val exR1), (11, true, eRule.val exU1), (17, true, eRule.val exU3), (21, true, o17.v), (22, true, eMirrorConf.val exX1)] [OwnS o0.v iE [1, 2, 3] 3, OwnS o17.v eMeterConf [exM1] 81, Var b2 eMatch exWeb 91, Var b1 eConf eConf.zero 28] := by
    intro o0 o17
    refine unH hH ?_
    refine all [3, 19] (by kernel_rfl) (by decide) (.cons rfl ?_ (.cons rfl ?_ .nil))
    · refine (callv en34 (.cons (.c (v := U8 10) rfl) (.cons (.c (v := U8 1) rfl) (.cons (.c (v := I 16) rfl) .nil))) (fun w I => four_ok _ _ _ w) ?_)
      refine hdn (tk 4 rfl (Ev.buildS (fs := _) (places := [(0, 18), (18, 1)]) z102 rfl Tryz.underlying102 (by kernel_rfl) (.cons (.t rfl) (.cons (.c (v := I 3) rfl) .nil)) (Fills.cons SRoute.l_to_ rfl (Fills.cons SRoute.l_out rfl Fills.nil))) ?_)
      exact goD hH (by kernel_rfl) (by repeat first | exact Sub.nil | refine Sub.cons rfl ?_) (SubP.cons Rem.head (SubP.cons Rem.head (SubP.of sR))) (st2_39 o0 o17)
    · refine (buildSlice (E := eMirrorConf) Tryz.underlying26 ty83 z83 (.cons (.t rfl) .nil) rfl rfl (fun v111 => ?_))
      refine hdn ?_
      exact goD hH (by kernel_rfl) (by repeat first | exact Sub.nil | refine Sub.cons rfl ?_) (SubP.cons (Rem.tail Rem.head) (SubP.cons (Rem.tail Rem.head) (SubP.cons Rem.head (SubP.of sR)))) (st2_45 o0 o17 v111)
  have st2_50 : ∀ (o0 : OV) (o19 : OV), Sat (⟨25, w, Nope⟩ : Ctx) (H 10 #[true, true, true, false, false, false, true, true, false, false, false, true, true, true, false, true, true, false, true, true, false, false]) [dz, (0, true, .pointer (some ⟨b1, 0, none⟩)), (1, true, .pointer (some ⟨b2, 0, none⟩)), (4, true, o0.v), (6, true, eRoute.val exR1), (11, true, eRule.val exU1), (17, true, eRule.val exU3), (20, true, eMeterConf.val exM1), (23, true, o19.v)] [OwnS o0.v iE [1, 2, 3] 3, OwnS o19.v eMirrorConf [exX1] 83, Var b2 eMatch exWeb 91, Var b1 eConf eConf.zero 28] := by
    intro o0 o19
    refine unH hH ?_
    refine all [3, 17] (by kernel_rfl) (by decide) (.cons rfl ?_ (.cons rfl ?_ .nil))
    · refine (callv en34 (.cons (.c (v := U8 10) rfl) (.cons (.c (v := U8 1) rfl) (.cons (.c (v := I 16) rfl) .nil))) (fun w I => four_ok _ _ _ w) ?_)
      refine hdn (tk 4 rfl (Ev.buildS (fs := _) (places := [(0, 18), (18, 1)]) z102 rfl Tryz.underlying102 (by kernel_rfl) (.cons (.t rfl) (.cons (.c (v := I 3) rfl) .nil)) (Fills.cons SRoute.l_to_ rfl (Fills.cons SRoute.l_out rfl Fills.nil))) ?_)
      exact goD hH (by kernel_rfl) (by repeat first | exact Sub.nil | refine Sub.cons rfl ?_) (SubP.cons Rem.head (SubP.cons Rem.head (SubP.of sR))) (st2_40 o0 o19)
    · refine (buildSlice (E := eMeterConf) Tryz.underlying25 ty81 z81 (.cons (.t rfl) .nil) rfl rfl (fun v112 => ?_))
      refine hdn ?_
      exact goD hH (by kernel_rfl) (by repeat first | exact Sub.nil | refine Sub.cons rfl ?_) (SubP.cons (Rem.tail Rem.head) (SubP.cons Rem.head (SubP.cons Rem.head (SubP.of sR)))) (st2_45 o0 v112 o19)
  have st2_51 : Sat (⟨25, w, Nope⟩ : Ctx) (H 10 #[false, true, true, true, true, false, true, true, false, false, false, true, true, true, false, true, true, false, true, false, false, false]) [dz, (0, true, .pointer (some ⟨b1, 0, none⟩)), (1, true, .pointer (some ⟨b2, 0, none⟩)), (6, true, eRoute.val exR1), (8, true, eRoute.val exR2), (11, true, eRule.val exU1), (17, true, eRule.val exU3), (20, true, eMeterConf.val exM1), (22, true, eMirrorConf.val exX1)] [Var b2 eMatch exWeb 91, Var b1 eConf eConf.zero 28] := by
    refine unH hH ?_
    refine all [0, 5, 8, 17, 19] (by kernel_rfl) (by decide) (.cons rfl ?_ (.cons rfl ?_ (.cons rfl ?_ (.cons rfl ?_ (.cons rfl ?_ .nil)))))
    · refine (buildSlice (E := iE) Tryz.underlying22 ty3 z3 (.cons (.c (v := I 1) rfl) (.cons (.c (v := I 2) rfl) (.cons (.c (v := I 3) rfl) .nil))) rfl rfl (fun v113 => ?_))
      refine hdn ?_
      exact goD hH (by kernel_rfl) (by repeat first | exact Sub.nil | refine Sub.cons rfl ?_) (SubP.cons Rem.head (SubP.of sR)) (st2_44 v113)
    · refine (buildSlice (E := eRoute) Tryz.underlying23 ty102 z102 (.cons (.t rfl) (.cons (.t rfl) .nil)) rfl rfl (fun v114 => ?_))
      refine hdn ?_
      exact goD hH (by kernel_rfl) (by repeat first | exact Sub.nil | refine Sub.cons rfl ?_) (SubP.cons Rem.head (SubP.of sR)) (st2_46 v114)
    · refine (callv en34 (.cons (.c (v := U8 10) rfl) (.cons (.c (v := U8 9) rfl) (.cons (.c (v := I 16) rfl) .nil))) (fun w I => four_ok _ _ _ w) ?_)
      refine hdn (tk 9 rfl (Ev.buildS (fs := _) (places := [(0, 1), (1, 2), (3, 18), (21, 18), (39, 1), (40, 2), (42, 2)]) z91 rfl Tryz.underlying91 (by kernel_rfl) (.cons (.c (v := U8 2) rfl) (.cons (.t rfl) .nil)) (Fills.cons SMatch.l_asks rfl (Fills.cons SMatch.l_src rfl Fills.nil))) ?_)
      refine tk 10 rfl (Ev.buildS (fs := _) (places := [(0, 1), (1, 44), (45, 1), (46, 1), (47, 1), (48, 1)]) z93 rfl Tryz.underlying93 (by kernel_rfl) (.cons (.c (v := (Go.Value.string (ByteArray.mk #[110, 111]))) rfl) (.cons (.t rfl) (.cons (.c (v := I 4) rfl) .nil))) (Fills.cons SRule.l_name rfl (Fills.cons SRule.l_match_ rfl (Fills.cons SRule.l_action rfl Fills.nil)))) ?_
      exact goD hH (by kernel_rfl) (by repeat first | exact Sub.nil | refine Sub.cons rfl ?_) (SubP.of sR) (st2_37)
    · refine (buildSlice (E := eMeterConf) Tryz.underlying25 ty81 z81 (.cons (.t rfl) .nil) rfl rfl (fun v115 => ?_))
      refine hdn ?_
      exact goD hH (by kernel_rfl) (by repeat first | exact Sub.nil | refine Sub.cons rfl ?_) (SubP.cons Rem.head (SubP.of sR)) (st2_47 v115)
    · refine (buildSlice (E := eMirrorConf) Tryz.underlying26 ty83 z83 (.cons (.t rfl) .nil) rfl rfl (fun v116 => ?_))
      refine hdn ?_
      exact goD hH (by kernel_rfl) (by repeat first | exact Sub.nil | refine Sub.cons rfl ?_) (SubP.cons Rem.head (SubP.of sR)) (st2_48 v116)
  have st2_52 : ∀ (o17 : OV) (o19 : OV), Sat (⟨25, w, Nope⟩ : Ctx) (H 10 #[false, true, true, false, false, false, true, true, false, false, false, true, true, true, false, true, true, true, true, true, false, false]) [dz, (0, true, .pointer (some ⟨b1, 0, none⟩)), (1, true, .pointer (some ⟨b2, 0, none⟩)), (6, true, eRoute.val exR1), (11, true, eRule.val exU1), (17, true, eRule.val exU3), (21, true, o17.v), (23, true, o19.v)] [OwnS o17.v eMeterConf [exM1] 81, OwnS o19.v eMirrorConf [exX1] 83, Var b2 eMatch exWeb 91, Var b1 eConf eConf.zero 28] := by
    intro o17 o19
    refine unH hH ?_
    refine all [0, 3] (by kernel_rfl) (by decide) (.cons rfl ?_ (.cons rfl ?_ .nil))
    · refine (buildSlice (E := iE) Tryz.underlying22 ty3 z3 (.cons (.c (v := I 1) rfl) (.cons (.c (v := I 2) rfl) (.cons (.c (v := I 3) rfl) .nil))) rfl rfl (fun v117 => ?_))
      refine hdn ?_
      exact goD hH (by kernel_rfl) (by repeat first | exact Sub.nil | refine Sub.cons rfl ?_) (SubP.cons Rem.head (SubP.cons Rem.head (SubP.cons Rem.head (SubP.of sR)))) (st2_45 v117 o17 o19)
    · refine (callv en34 (.cons (.c (v := U8 10) rfl) (.cons (.c (v := U8 1) rfl) (.cons (.c (v := I 16) rfl) .nil))) (fun w I => four_ok _ _ _ w) ?_)
      refine hdn (tk 4 rfl (Ev.buildS (fs := _) (places := [(0, 18), (18, 1)]) z102 rfl Tryz.underlying102 (by kernel_rfl) (.cons (.t rfl) (.cons (.c (v := I 3) rfl) .nil)) (Fills.cons SRoute.l_to_ rfl (Fills.cons SRoute.l_out rfl Fills.nil))) ?_)
      exact goD hH (by kernel_rfl) (by repeat first | exact Sub.nil | refine Sub.cons rfl ?_) (SubP.cons Rem.head (SubP.cons Rem.head (SubP.of sR))) (st2_43 o17 o19)
  have st2_53 : ∀ (o0 : OV), Sat (⟨25, w, Nope⟩ : Ctx) (H 11 #[true, true, true, false, false, false, true, true, false, false, false, true, true, true, false, true, true, false, true, false, false, false]) [dz, (0, true, .pointer (some ⟨b1, 0, none⟩)), (1, true, .pointer (some ⟨b2, 0, none⟩)), (4, true, o0.v), (6, true, eRoute.val exR1), (11, true, eRule.val exU1), (17, true, eRule.val exU3), (20, true, eMeterConf.val exM1), (22, true, eMirrorConf.val exX1)] [OwnS o0.v iE [1, 2, 3] 3, Var b2 eMatch exWeb 91, Var b1 eConf eConf.zero 28] := by
    intro o0
    refine unH hH ?_
    refine all [3, 17, 19] (by kernel_rfl) (by decide) (.cons rfl ?_ (.cons rfl ?_ (.cons rfl ?_ .nil)))
    · refine (callv en34 (.cons (.c (v := U8 10) rfl) (.cons (.c (v := U8 1) rfl) (.cons (.c (v := I 16) rfl) .nil))) (fun w I => four_ok _ _ _ w) ?_)
      refine hdn (tk 4 rfl (Ev.buildS (fs := _) (places := [(0, 18), (18, 1)]) z102 rfl Tryz.underlying102 (by kernel_rfl) (.cons (.t rfl) (.cons (.c (v := I 3) rfl) .nil)) (Fills.cons SRoute.l_to_ rfl (Fills.cons SRoute.l_out rfl Fills.nil))) ?_)
      exact goD hH (by kernel_rfl) (by repeat first | exact Sub.nil | refine Sub.cons rfl ?_) (SubP.cons Rem.head (SubP.of sR)) (st2_44 o0)
    · refine (buildSlice (E := eMeterConf) Tryz.underlying25 ty81 z81 (.cons (.t rfl) .nil) rfl rfl (fun v118 => ?_))
      refine hdn ?_
      exact goD hH (by kernel_rfl) (by repeat first | exact Sub.nil | refine Sub.cons rfl ?_) (SubP.cons (Rem.tail Rem.head) (SubP.cons Rem.head (SubP.of sR))) (st2_49 o0 v118)
    · refine (buildSlice (E := eMirrorConf) Tryz.underlying26 ty83 z83 (.cons (.t rfl) .nil) rfl rfl (fun v119 => ?_))
      refine hdn ?_
      exact goD hH (by kernel_rfl) (by repeat first | exact Sub.nil | refine Sub.cons rfl ?_) (SubP.cons (Rem.tail Rem.head) (SubP.cons Rem.head (SubP.of sR))) (st2_50 o0 v119)
  have st2_54 : ∀ (o0 : OV) (o17 : OV) (o19 : OV), Sat (⟨25, w, Nope⟩ : Ctx) (H 11 #[true, false, false, false, false, false, true, true, false, false, false, true, true, true, false, true, true, true, true, true, false, false]) [dz, (0, true, .pointer (some ⟨b1, 0, none⟩)), (1, true, .pointer (some ⟨b2, 0, none⟩)), (4, true, o0.v), (11, true, eRule.val exU1), (17, true, eRule.val exU3), (21, true, o17.v), (23, true, o19.v)] [OwnS o0.v iE [1, 2, 3] 3, OwnS o17.v eMeterConf [exM1] 81, OwnS o19.v eMirrorConf [exX1] 83, Var b2 eMatch exWeb 91, Var b1 eConf eConf.zero 28] := by
    intro o0 o17 o19
    refine unH hH ?_
    refine al1 1 rfl ((callv en34 (.cons (.c (v := U8 10) rfl) (.cons (.c (v := U8 0) rfl) (.cons (.c (v := I 8) rfl) .nil))) (fun w I => four_ok _ _ _ w) ?_))
    refine hdn (tk 2 rfl (Ev.buildS (fs := _) (places := [(0, 18), (18, 1)]) z102 rfl Tryz.underlying102 (by kernel_rfl) (.cons (.t rfl) (.cons (.c (v := I 2) rfl) .nil)) (Fills.cons SRoute.l_to_ rfl (Fills.cons SRoute.l_out rfl Fills.nil))) ?_)
    exact goD hH (by kernel_rfl) (by repeat first | exact Sub.nil | refine Sub.cons rfl ?_) (SubP.cons Rem.head (SubP.cons Rem.head (SubP.cons Rem.head (SubP.of sR)))) (st2_45 o0 o17 o19)
  have st2_55 : ∀ (o17 : OV), Sat (⟨25, w, Nope⟩ : Ctx) (H 11 #[false, true, true, false, false, false, true, true, false, false, false, true, true, true, false, true, true, true, true, false, false, false]) [dz, (0, true, .pointer (some ⟨b1, 0, none⟩)), (1, true, .pointer (some ⟨b2, 0, none⟩)), (6, true, eRoute.val exR1), (11, true, eRule.val exU1), (17, true, eRule.val exU3), (21, true, o17.v), (22, true, eMirrorConf.val exX1)] [OwnS o17.v eMeterConf [exM1] 81, Var b2 eMatch exWeb 91, Var b1 eConf eConf.zero 28] := by
    intro o17
    refine unH hH ?_
    refine all [0, 3, 19] (by kernel_rfl) (by decide) (.cons rfl ?_ (.cons rfl ?_ (.cons rfl ?_ .nil)))
    · refine (buildSlice (E := iE) Tryz.underlying22 ty3 z3 (.cons (.c (v := I 1) rfl) (.cons (.c (v := I 2) rfl) (.cons (.c (v := I 3) rfl) .nil))) rfl rfl (fun v120 => ?_))
      refine hdn ?_
      exact goD hH (by kernel_rfl) (by repeat first | exact Sub.nil | refine Sub.cons rfl ?_) (SubP.cons Rem.head (SubP.cons Rem.head (SubP.of sR))) (st2_49 v120 o17)
    · refine (callv en34 (.cons (.c (v := U8 10) rfl) (.cons (.c (v := U8 1) rfl) (.cons (.c (v := I 16) rfl) .nil))) (fun w I => four_ok _ _ _ w) ?_)
      refine hdn (tk 4 rfl (Ev.buildS (fs := _) (places := [(0, 18), (18, 1)]) z102 rfl Tryz.underlying102 (by kernel_rfl) (.cons (.t rfl) (.cons (.c (v := I 3) rfl) .nil)) (Fills.cons SRoute.l_to_ rfl (Fills.cons SRoute.l_out rfl Fills.nil))) ?_)
      exact goD hH (by kernel_rfl) (by repeat first | exact Sub.nil | refine Sub.cons rfl ?_) (SubP.cons Rem.head (SubP.of sR)) (st2_47 o17)
    · refine (buildSlice (E := eMirrorConf) Tryz.underlying26 ty83 z83 (.cons (.t rfl) .nil) rfl rfl (fun v121 => ?_))
      refine hdn ?_
      exact goD hH (by kernel_rfl) (by repeat first | exact Sub.nil | refine Sub.cons rfl ?_) (SubP.cons (Rem.tail Rem.head) (SubP.cons Rem.head (SubP.of sR))) (st2_52 o17 v121)
  have st2_56 : ∀ (o19 : OV), Sat (⟨25, w, Nope⟩ : Ctx) (H 11 #[false, true, true, false, false, false, true, true, false, false, false, true, true, true, false, true, true, false, true, true, false, false]) [dz, (0, true, .pointer (some ⟨b1, 0, none⟩)), (1, true, .pointer (some ⟨b2, 0, none⟩)), (6, true, eRoute.val exR1), (11, true, eRule.val exU1), (17, true, eRule.val exU3), (20, true, eMeterConf.val exM1), (23, true, o19.v)] [OwnS o19.v eMirrorConf [exX1] 83, Var b2 eMatch exWeb 91, Var b1 eConf eConf.zero 28] := by
    intro o19
    refine unH hH ?_
    refine all [0, 3, 17] (by kernel_rfl) (by decide) (.cons rfl ?_ (.cons rfl ?_ (.cons rfl ?_ .nil)))
    · refine (buildSlice (E := iE) Tryz.underlying22 ty3 z3 (.cons (.c (v := I 1) rfl) (.cons (.c (v := I 2) rfl) (.cons (.c (v := I 3) rfl) .nil))) rfl rfl (fun v122 => ?_))
      refine hdn ?_
      exact goD hH (by kernel_rfl) (by repeat first | exact Sub.nil | refine Sub.cons rfl ?_) (SubP.cons Rem.head (SubP.cons Rem.head (SubP.of sR))) (st2_50 v122 o19)
    · refine (callv en34 (.cons (.c (v := U8 10) rfl) (.cons (.c (v := U8 1) rfl) (.cons (.c (v := I 16) rfl) .nil))) (fun w I => four_ok _ _ _ w) ?_)
      refine hdn (tk 4 rfl (Ev.buildS (fs := _) (places := [(0, 18), (18, 1)]) z102 rfl Tryz.underlying102 (by kernel_rfl) (.cons (.t rfl) (.cons (.c (v := I 3) rfl) .nil)) (Fills.cons SRoute.l_to_ rfl (Fills.cons SRoute.l_out rfl Fills.nil))) ?_)
      exact goD hH (by kernel_rfl) (by repeat first | exact Sub.nil | refine Sub.cons rfl ?_) (SubP.cons Rem.head (SubP.of sR)) (st2_48 o19)
    · refine (buildSlice (E := eMeterConf) Tryz.underlying25 ty81 z81 (.cons (.t rfl) .nil) rfl rfl (fun v123 => ?_))
      refine hdn ?_
      exact goD hH (by kernel_rfl) (by repeat first | exact Sub.nil | refine Sub.cons rfl ?_) (SubP.cons Rem.head (SubP.cons Rem.head (SubP.of sR))) (st2_52 v123 o19)
  have st2_57 : ∀ (o0 : OV) (o17 : OV), Sat (⟨25, w, Nope⟩ : Ctx) (H 12 #[true, false, false, false, false, false, true, true, false, false, false, true, true, true, false, true, true, true, true, false, false, false]) [dz, (0, true, .pointer (some ⟨b1, 0, none⟩)), (1, true, .pointer (some ⟨b2, 0, none⟩)), (4, true, o0.v), (11, true, eRule.val exU1), (17, true, eRule.val exU3), (21, true, o17.v), (22, true, eMirrorConf.val exX1)] [OwnS o0.v iE [1, 2, 3] 3, OwnS o17.v eMeterConf [exM1] 81, Var b2 eMatch exWeb 91, Var b1 eConf eConf.zero 28] := by
    intro o0 o17
    refine unH hH ?_
    refine all [1, 19] (by kernel_rfl) (by decide) (.cons rfl ?_ (.cons rfl ?_ .nil))
    · refine (callv en34 (.cons (.c (v := U8 10) rfl) (.cons (.c (v := U8 0) rfl) (.cons (.c (v := I 8) rfl) .nil))) (fun w I => four_ok _ _ _ w) ?_)
      refine hdn (tk 2 rfl (Ev.buildS (fs := _) (places := [(0, 18), (18, 1)]) z102 rfl Tryz.underlying102 (by kernel_rfl) (.cons (.t rfl) (.cons (.c (v := I 2) rfl) .nil)) (Fills.cons SRoute.l_to_ rfl (Fills.cons SRoute.l_out rfl Fills.nil))) ?_)
      exact goD hH (by kernel_rfl) (by repeat first | exact Sub.nil | refine Sub.cons rfl ?_) (SubP.cons Rem.head (SubP.cons Rem.head (SubP.of sR))) (st2_49 o0 o17)
    · refine (buildSlice (E := eMirrorConf) Tryz.underlying26 ty83 z83 (.cons (.t rfl) .nil) rfl rfl (fun v124 => ?_))
      refine hdn ?_
      exact goD hH (by kernel_rfl) (by repeat first | exact Sub.nil | refine Sub.cons rfl ?_) (SubP.cons (Rem.tail Rem.head) (SubP.cons (Rem.tail Rem.head) (SubP.cons Rem.head (SubP.of sR)))) (st2_54 o0 o17 v124)
  have st2_58 : ∀ (o0 : OV) (o19 : OV), Sat (⟨25, w, Nope⟩ : Ctx) (H 12 #[true, false, false, false, false, false, true, true, false, false, false, true, true, true, false, true, true, false, true, true, false, false]) [dz, (0, true, .pointer (some ⟨b1, 0, none⟩)), (1, true, .pointer (some ⟨b2, 0, none⟩)), (4, true, o0.v), (11, true, eRule.val exU1), (17, true, eRule.val exU3), (20, true, eMeterConf.val exM1), (23, true, o19.v)] [OwnS o0.v iE [1, 2, 3] 3, OwnS o19.v eMirrorConf [exX1] 83, Var b2 eMatch exWeb 91, Var b1 eConf eConf.zero 28] := by
    intro o0 o19
    refine unH hH ?_
    refine all [1, 17] (by kernel_rfl) (by decide) (.cons rfl ?_ (.cons rfl ?_ .nil))
    · refine (callv en34 (.cons (.c (v := U8 10) rfl) (.cons (.c (v := U8 0) rfl) (.cons (.c (v := I 8) rfl) .nil))) (fun w I => four_ok _ _ _ w) ?_)
      refine hdn (tk 2 rfl (Ev.buildS (fs := _) (places := [(0, 18), (18, 1)]) z102 rfl Tryz.underlying102 (by kernel_rfl) (.cons (.t rfl) (.cons (.c (v := I 2) rfl) .nil)) (Fills.cons SRoute.l_to_ rfl (Fills.cons SRoute.l_out rfl Fills.nil))) ?_)
      exact goD hH (by kernel_rfl) (by repeat first | exact Sub.nil | refine Sub.cons rfl ?_) (SubP.cons Rem.head (SubP.cons Rem.head (SubP.of sR))) (st2_50 o0 o19)
    · refine (buildSlice (E := eMeterConf) Tryz.underlying25 ty81 z81 (.cons (.t rfl) .nil) rfl rfl (fun v125 => ?_))
      refine hdn ?_
      exact goD hH (by kernel_rfl) (by repeat first | exact Sub.nil | refine Sub.cons rfl ?_) (SubP.cons (Rem.tail Rem.head) (SubP.cons Rem.head (SubP.cons Rem.head (SubP.of sR)))) (st2_54 o0 v125 o19)
  have st2_59 : Sat (⟨25, w, Nope⟩ : Ctx) (H 12 #[false, true, true, false, false, false, true, true, false, false, false, true, true, true, false, true, true, false, true, false, false, false]) [dz, (0, true, .pointer (some ⟨b1, 0, none⟩)), (1, true, .pointer (some ⟨b2, 0, none⟩)), (6, true, eRoute.val exR1), (11, true, eRule.val exU1), (17, true, eRule.val exU3), (20, true, eMeterConf.val exM1), (22, true, eMirrorConf.val exX1)] [Var b2 eMatch exWeb 91, Var b1 eConf eConf.zero 28] := by
    refine unH hH ?_
    refine all [0, 3, 17, 19] (by kernel_rfl) (by decide) (.cons rfl ?_ (.cons rfl ?_ (.cons rfl ?_ (.cons rfl ?_ .nil))))
    · refine (buildSlice (E := iE) Tryz.underlying22 ty3 z3 (.cons (.c (v := I 1) rfl) (.cons (.c (v := I 2) rfl) (.cons (.c (v := I 3) rfl) .nil))) rfl rfl (fun v126 => ?_))
      refine hdn ?_
      exact goD hH (by kernel_rfl) (by repeat first | exact Sub.nil | refine Sub.cons rfl ?_) (SubP.cons Rem.head (SubP.of sR)) (st2_53 v126)
    · refine (callv en34 (.cons (.c (v := U8 10) rfl) (.cons (.c (v := U8 1) rfl) (.cons (.c (v := I 16) rfl) .nil))) (fun w I => four_ok _ _ _ w) ?_)
      refine hdn (tk 4 rfl (Ev.buildS (fs := _) (places := [(0, 18), (18, 1)]) z102 rfl Tryz.underlying102 (by kernel_rfl) (.cons (.t rfl) (.cons (.c (v := I 3) rfl) .nil)) (Fills.cons SRoute.l_to_ rfl (Fills.cons SRoute.l_out rfl Fills.nil))) ?_)
      exact goD hH (by kernel_rfl) (by repeat first | exact Sub.nil | refine Sub.cons rfl ?_) (SubP.of sR) (st2_51)
    · refine (buildSlice (E := eMeterConf) Tryz.underlying25 ty81 z81 (.cons (.t rfl) .nil) rfl rfl (fun v127 => ?_))
      refine hdn ?_
      exact goD hH (by kernel_rfl) (by repeat first | exact Sub.nil | refine Sub.cons rfl ?_) (SubP.cons Rem.head (SubP.of sR)) (st2_55 v127)
    · refine (buildSlice (E := eMirrorConf) Tryz.underlying26 ty83 z83 (.cons (.t rfl) .nil) rfl rfl (fun v128 => ?_))
      refine hdn ?_
      exact goD hH (by kernel_rfl) (by repeat first | exact Sub.nil | refine Sub.cons rfl ?_) (SubP.cons Rem.head (SubP.of sR)) (st2_56 v128)
  have st2_60 : ∀ (o17 : OV) (o19 : OV), Sat (⟨25, w, Nope⟩ : Ctx) (H 12 #[false, false, false, false, false, false, true, true, false, false, false, true, true, true, false, true, true, true, true, true, false, false]) [dz, (0, true, .pointer (some ⟨b1, 0, none⟩)), (1, true, .pointer (some ⟨b2, 0, none⟩)), (11, true, eRule.val exU1), (17, true, eRule.val exU3), (21, true, o17.v), (23, true, o19.v)] [OwnS o17.v eMeterConf [exM1] 81, OwnS o19.v eMirrorConf [exX1] 83, Var b2 eMatch exWeb 91, Var b1 eConf eConf.zero 28] := by
    intro o17 o19
    refine unH hH ?_
    refine all [0, 1] (by kernel_rfl) (by decide) (.cons rfl ?_ (.cons rfl ?_ .nil))
    · refine (buildSlice (E := iE) Tryz.underlying22 ty3 z3 (.cons (.c (v := I 1) rfl) (.cons (.c (v := I 2) rfl) (.cons (.c (v := I 3) rfl) .nil))) rfl rfl (fun v129 => ?_))
      refine hdn ?_
      exact goD hH (by kernel_rfl) (by repeat first | exact Sub.nil | refine Sub.cons rfl ?_) (SubP.cons Rem.head (SubP.cons Rem.head (SubP.cons Rem.head (SubP.of sR)))) (st2_54 v129 o17 o19)
    · refine (callv en34 (.cons (.c (v := U8 10) rfl) (.cons (.c (v := U8 0) rfl) (.cons (.c (v := I 8) rfl) .nil))) (fun w I => four_ok _ _ _ w) ?_)
      refine hdn (tk 2 rfl (Ev.buildS (fs := _) (places := [(0, 18), (18, 1)]) z102 rfl Tryz.underlying102 (by kernel_rfl) (.cons (.t rfl) (.cons (.c (v := I 2) rfl) .nil)) (Fills.cons SRoute.l_to_ rfl (Fills.cons SRoute.l_out rfl Fills.nil))) ?_)
      exact goD hH (by kernel_rfl) (by repeat first | exact Sub.nil | refine Sub.cons rfl ?_) (SubP.cons Rem.head (SubP.cons Rem.head (SubP.of sR))) (st2_52 o17 o19)
  have st2_61 : ∀ (o0 : OV), Sat (⟨25, w, Nope⟩ : Ctx) (H 13 #[true, false, false, false, false, false, true, true, false, false, false, true, true, true, false, true, true, false, true, false, false, false]) [dz, (0, true, .pointer (some ⟨b1, 0, none⟩)), (1, true, .pointer (some ⟨b2, 0, none⟩)), (4, true, o0.v), (11, true, eRule.val exU1), (17, true, eRule.val exU3), (20, true, eMeterConf.val exM1), (22, true, eMirrorConf.val exX1)] [OwnS o0.v iE [1, 2, 3] 3, Var b2 eMatch exWeb 91, Var b1 eConf eConf.zero 28] := by
    intro o0
    refine unH hH ?_
    refine all [1, 17, 19] (by kernel_rfl) (by decide) (.cons rfl ?_ (.cons rfl ?_ (.cons rfl ?_ .nil)))
    · refine (callv en34 (.cons (.c (v := U8 10) rfl) (.cons (.c (v := U8 0) rfl) (.cons (.c (v := I 8) rfl) .nil))) (fun w I => four_ok _ _ _ w) ?_)
      refine hdn (tk 2 rfl (Ev.buildS (fs := _) (places := [(0, 18), (18, 1)]) z102 rfl Tryz.underlying102 (by kernel_rfl) (.cons (.t rfl) (.cons (.c (v := I 2) rfl) .nil)) (Fills.cons SRoute.l_to_ rfl (Fills.cons SRoute.l_out rfl Fills.nil))) ?_)
      exact goD hH (by kernel_rfl) (by repeat first | exact Sub.nil | refine Sub.cons rfl ?_) (SubP.cons Rem.head (SubP.of sR)) (st2_53 o0)
    · refine (buildSlice (E := eMeterConf) Tryz.underlying25 ty81 z81 (.cons (.t rfl) .nil) rfl rfl (fun v130 => ?_))
      refine hdn ?_
      exact goD hH (by kernel_rfl) (by repeat first | exact Sub.nil | refine Sub.cons rfl ?_) (SubP.cons (Rem.tail Rem.head) (SubP.cons Rem.head (SubP.of sR))) (st2_57 o0 v130)
    · refine (buildSlice (E := eMirrorConf) Tryz.underlying26 ty83 z83 (.cons (.t rfl) .nil) rfl rfl (fun v131 => ?_))
      refine hdn ?_
      exact goD hH (by kernel_rfl) (by repeat first | exact Sub.nil | refine Sub.cons rfl ?_) (SubP.cons (Rem.tail Rem.head) (SubP.cons Rem.head (SubP.of sR))) (st2_58 o0 v131)
  have st2_62 : ∀ (o17 : OV), Sat (⟨25, w, Nope⟩ : Ctx) (H 13 #[false, false, false, false, false, false, true, true, false, false, false, true, true, true, false, true, true, true, true, false, false, false]) [dz, (0, true, .pointer (some ⟨b1, 0, none⟩)), (1, true, .pointer (some ⟨b2, 0, none⟩)), (11, true, eRule.val exU1), (17, true, eRule.val exU3), (21, true, o17.v), (22, true, eMirrorConf.val exX1)] [OwnS o17.v eMeterConf [exM1] 81, Var b2 eMatch exWeb 91, Var b1 eConf eConf.zero 28] := by
    intro o17
    refine unH hH ?_
    refine all [0, 1, 19] (by kernel_rfl) (by decide) (.cons rfl ?_ (.cons rfl ?_ (.cons rfl ?_ .nil)))
    · refine (buildSlice (E := iE) Tryz.underlying22 ty3 z3 (.cons (.c (v := I 1) rfl) (.cons (.c (v := I 2) rfl) (.cons (.c (v := I 3) rfl) .nil))) rfl rfl (fun v132 => ?_))
      refine hdn ?_
      exact goD hH (by kernel_rfl) (by repeat first | exact Sub.nil | refine Sub.cons rfl ?_) (SubP.cons Rem.head (SubP.cons Rem.head (SubP.of sR))) (st2_57 v132 o17)
    · refine (callv en34 (.cons (.c (v := U8 10) rfl) (.cons (.c (v := U8 0) rfl) (.cons (.c (v := I 8) rfl) .nil))) (fun w I => four_ok _ _ _ w) ?_)
      refine hdn (tk 2 rfl (Ev.buildS (fs := _) (places := [(0, 18), (18, 1)]) z102 rfl Tryz.underlying102 (by kernel_rfl) (.cons (.t rfl) (.cons (.c (v := I 2) rfl) .nil)) (Fills.cons SRoute.l_to_ rfl (Fills.cons SRoute.l_out rfl Fills.nil))) ?_)
      exact goD hH (by kernel_rfl) (by repeat first | exact Sub.nil | refine Sub.cons rfl ?_) (SubP.cons Rem.head (SubP.of sR)) (st2_55 o17)
    · refine (buildSlice (E := eMirrorConf) Tryz.underlying26 ty83 z83 (.cons (.t rfl) .nil) rfl rfl (fun v133 => ?_))
      refine hdn ?_
      exact goD hH (by kernel_rfl) (by repeat first | exact Sub.nil | refine Sub.cons rfl ?_) (SubP.cons (Rem.tail Rem.head) (SubP.cons Rem.head (SubP.of sR))) (st2_60 o17 v133)
  have st2_63 : ∀ (o19 : OV), Sat (⟨25, w, Nope⟩ : Ctx) (H 13 #[false, false, false, false, false, false, true, true, false, false, false, true, true, true, false, true, true, false, true, true, false, false]) [dz, (0, true, .pointer (some ⟨b1, 0, none⟩)), (1, true, .pointer (some ⟨b2, 0, none⟩)), (11, true, eRule.val exU1), (17, true, eRule.val exU3), (20, true, eMeterConf.val exM1), (23, true, o19.v)] [OwnS o19.v eMirrorConf [exX1] 83, Var b2 eMatch exWeb 91, Var b1 eConf eConf.zero 28] := by
    intro o19
    refine unH hH ?_
    refine all [0, 1, 17] (by kernel_rfl) (by decide) (.cons rfl ?_ (.cons rfl ?_ (.cons rfl ?_ .nil)))
    · refine (buildSlice (E := iE) Tryz.underlying22 ty3 z3 (.cons (.c (v := I 1) rfl) (.cons (.c (v := I 2) rfl) (.cons (.c (v := I 3) rfl) .nil))) rfl rfl (fun v134 => ?_))
      refine hdn ?_
      exact goD hH (by kernel_rfl) (by repeat first | exact Sub.nil | refine Sub.cons rfl ?_) (SubP.cons Rem.head (SubP.cons Rem.head (SubP.of sR))) (st2_58 v134 o19)
    · refine (callv en34 (.cons (.c (v := U8 10) rfl) (.cons (.c (v := U8 0) rfl) (.cons (.c (v := I 8) rfl) .nil))) (fun w I => four_ok _ _ _ w) ?_)
      refine hdn (tk 2 rfl (Ev.buildS (fs := _) (places := [(0, 18), (18, 1)]) z102 rfl Tryz.underlying102 (by kernel_rfl) (.cons (.t rfl) (.cons (.c (v := I 2) rfl) .nil)) (Fills.cons SRoute.l_to_ rfl (Fills.cons SRoute.l_out rfl Fills.nil))) ?_)
      exact goD hH (by kernel_rfl) (by repeat first | exact Sub.nil | refine Sub.cons rfl ?_) (SubP.cons Rem.head (SubP.of sR)) (st2_56 o19)
    · refine (buildSlice (E := eMeterConf) Tryz.underlying25 ty81 z81 (.cons (.t rfl) .nil) rfl rfl (fun v135 => ?_))
      refine hdn ?_
      exact goD hH (by kernel_rfl) (by repeat first | exact Sub.nil | refine Sub.cons rfl ?_) (SubP.cons Rem.head (SubP.cons Rem.head (SubP.of sR))) (st2_60 v135 o19)
  have st2_64 : Sat (⟨25, w, Nope⟩ : Ctx) (H 14 #[false, false, false, false, false, false, true, true, false, false, false, true, true, true, false, true, true, false, true, false, false, false]) [dz, (0, true, .pointer (some ⟨b1, 0, none⟩)), (1, true, .pointer (some ⟨b2, 0, none⟩)), (11, true, eRule.val exU1), (17, true, eRule.val exU3), (20, true, eMeterConf.val exM1), (22, true, eMirrorConf.val exX1)] [Var b2 eMatch exWeb 91, Var b1 eConf eConf.zero 28] := by
    refine unH hH ?_
    refine all [0, 1, 17, 19] (by kernel_rfl) (by decide) (.cons rfl ?_ (.cons rfl ?_ (.cons rfl ?_ (.cons rfl ?_ .nil))))
    · refine (buildSlice (E := iE) Tryz.underlying22 ty3 z3 (.cons (.c (v := I 1) rfl) (.cons (.c (v := I 2) rfl) (.cons (.c (v := I 3) rfl) .nil))) rfl rfl (fun v136 => ?_))
      refine hdn ?_
      exact goD hH (by kernel_rfl) (by repeat first | exact Sub.nil | refine Sub.cons rfl ?_) (SubP.cons Rem.head (SubP.of sR)) (st2_61 v136)
    · refine (callv en34 (.cons (.c (v := U8 10) rfl) (.cons (.c (v := U8 0) rfl) (.cons (.c (v := I 8) rfl) .nil))) (fun w I => four_ok _ _ _ w) ?_)
      refine hdn (tk 2 rfl (Ev.buildS (fs := _) (places := [(0, 18), (18, 1)]) z102 rfl Tryz.underlying102 (by kernel_rfl) (.cons (.t rfl) (.cons (.c (v := I 2) rfl) .nil)) (Fills.cons SRoute.l_to_ rfl (Fills.cons SRoute.l_out rfl Fills.nil))) ?_)
      exact goD hH (by kernel_rfl) (by repeat first | exact Sub.nil | refine Sub.cons rfl ?_) (SubP.of sR) (st2_59)
    · refine (buildSlice (E := eMeterConf) Tryz.underlying25 ty81 z81 (.cons (.t rfl) .nil) rfl rfl (fun v137 => ?_))
      refine hdn ?_
      exact goD hH (by kernel_rfl) (by repeat first | exact Sub.nil | refine Sub.cons rfl ?_) (SubP.cons Rem.head (SubP.of sR)) (st2_62 v137)
    · refine (buildSlice (E := eMirrorConf) Tryz.underlying26 ty83 z83 (.cons (.t rfl) .nil) rfl rfl (fun v138 => ?_))
      refine hdn ?_
      exact goD hH (by kernel_rfl) (by repeat first | exact Sub.nil | refine Sub.cons rfl ?_) (SubP.cons Rem.head (SubP.of sR)) (st2_63 v138)
  refine unH hH ?_
  refine tk 6 rfl (Ev.ldv ty91 (.t rfl) (Lens.id _)) ?_
  refine tk 7 rfl (Ev.buildS (fs := _) (places := [(0, 1), (1, 44), (45, 1), (46, 1), (47, 1), (48, 1)]) z93 rfl Tryz.underlying93 (by kernel_rfl) (.cons (.c (v := (Go.Value.string (ByteArray.mk #[119, 101, 98]))) rfl) (.cons (.t rfl) (.cons (.c (v := I 3) rfl) (.cons (.c (v := I 3) rfl) (.cons (.c (v := (Go.Value.string (ByteArray.mk #[115, 108, 111, 119]))) rfl) .nil))))) (Fills.cons SRule.l_name rfl (Fills.cons SRule.l_match_ rfl (Fills.cons SRule.l_action rfl (Fills.cons SRule.l_out rfl (Fills.cons SRule.l_meter rfl Fills.nil)))))) ?_
  refine tk 11 rfl (Ev.buildS (fs := _) (places := [(0, 1), (1, 1)]) z87 rfl Tryz.underlying87 (by kernel_rfl) (.cons (.c (v := U16 2) rfl) (.cons (.c (v := U16 2) rfl) .nil)) (Fills.cons SSpan.l_from_ rfl (Fills.cons SSpan.l_to_ rfl Fills.nil))) ?_
  refine tk 12 rfl (Ev.buildS (fs := _) (places := [(0, 1), (1, 2), (3, 18), (21, 18), (39, 1), (40, 2), (42, 2)]) z91 rfl Tryz.underlying91 (by kernel_rfl) (.cons (.c (v := U8 1) rfl) (.cons (.t rfl) .nil)) (Fills.cons SMatch.l_asks rfl (Fills.cons SMatch.l_in_ rfl Fills.nil))) ?_
  refine tk 13 rfl (Ev.buildS (fs := _) (places := [(0, 1), (1, 44), (45, 1), (46, 1), (47, 1), (48, 1)]) z93 rfl Tryz.underlying93 (by kernel_rfl) (.cons (.c (v := (Go.Value.string (ByteArray.mk #[108, 111, 111, 107]))) rfl) (.cons (.t rfl) (.cons (.c (v := I 1) rfl) (.cons (.c (v := (Go.Value.string (ByteArray.mk #[116, 97, 112]))) rfl) .nil)))) (Fills.cons SRule.l_name rfl (Fills.cons SRule.l_match_ rfl (Fills.cons SRule.l_action rfl (Fills.cons SRule.l_mirror rfl Fills.nil))))) ?_
  refine tk 15 rfl (Ev.buildS (fs := _) (places := [(0, 1), (1, 1), (2, 1)]) z79 rfl Tryz.underlying79 (by kernel_rfl) (.cons (.c (v := U64 1) rfl) (.cons (.c (v := U64 1) rfl) (.cons (.c (v := U64 1) rfl) .nil))) (Fills.cons SBucket.l_num rfl (Fills.cons SBucket.l_den rfl (Fills.cons SBucket.l_burst rfl Fills.nil)))) ?_
  refine tk 16 rfl (Ev.buildS (fs := _) (places := [(0, 1), (1, 3)]) z81 rfl Tryz.underlying81 (by kernel_rfl) (.cons (.c (v := (Go.Value.string (ByteArray.mk #[115, 108, 111, 119]))) rfl) (.cons (.t rfl) .nil)) (Fills.cons SMeterConf.l_name rfl (Fills.cons SMeterConf.l_bucket rfl Fills.nil))) ?_
  refine tk 18 rfl (Ev.buildS (fs := _) (places := [(0, 1), (1, 1), (2, 1)]) z83 rfl Tryz.underlying83 (by kernel_rfl) (.cons (.c (v := (Go.Value.string (ByteArray.mk #[116, 97, 112]))) rfl) (.cons (.c (v := I 1) rfl) (.cons (.c (v := I 2) rfl) .nil))) (Fills.cons SMirrorConf.l_name rfl (Fills.cons SMirrorConf.l_out rfl (Fills.cons SMirrorConf.l_room rfl Fills.nil)))) ?_
  exact goD hH (by kernel_rfl) (by repeat first | exact Sub.nil | refine Sub.cons rfl ?_) (by repeat first | exact SubP.nil | refine SubP.cons (by repeat first | exact Rem.head | apply Rem.tail) ?_) (st2_64)
end Go.Proofs.YtmdkmclgfgaahaaGreat
namespace Go.Proofs.YtmdkmclgfgaahaaGreat
open Go Go.Gx Go.Proofs.YtmdkmclgfgaahaaGreat.Tri
theorem co5 {K : Ctx} {L : List Res} {x : CB} {l : CL} {d : Int} (w : World) (I : WInv K L w) (h0 : OwnS x.o1.v iE l.ps 3 ∈ L := by repeat first | exact mH | apply mT | apply mA) (h1 : OwnS x.o2.v eRoute l.rs 102 ∈ L := by repeat first | exact mH | apply mT | apply mA) (h2 : OwnS x.o3.v eRule l.us 93 ∈ L := by repeat first | exact mH | apply mT | apply mA) (h3 : OwnS x.o4.v eMeterConf l.ms 81 ∈ L := by repeat first | exact mH | apply mT | apply mA) (h4 : OwnS x.o5.v eMirrorConf l.xs 83 ∈ L := by repeat first | exact mH | apply mT | apply mA) : ConfAt w (x.c d) l := ⟨isSl_own h0 w I, isSl_own h1 w I, isSl_own h2 w I, isSl_own h3 w I, isSl_own h4 w I⟩
theorem pl_at {K : Ctx} {L : List Res} {r : Res} {x : Pl × List Res} {l : CL} {d : Int} (h : ∀ w, (∀ q ∈ x.2, q.A w) → PlanAt w x.1 l d) (hm : Seps r x.2 ∈ L) (w : World) (I : WInv K L w) : PlanAt w x.1 l d := h w (Seps.A _ _ (at_mem hm w I).1).2
theorem wV1 : dvV exL 1 1 (pktH 6 0 #v[10, 1, 2, 3] 80) 0 = ⟨3, 3, 0, 0, -1⟩ := by decide +kernel
theorem wV2 : dvV exL 1 3 (pktH 17 0 #v[10, 2, 2, 3] 9) 0 = ⟨3, 2, -1, -1, -1⟩ := by decide +kernel
theorem wV3 : dvV exL 1 1 (pktH 17 9 #v[10, 1, 2, 3] 9) 0 = ⟨4, -1, 1, -1, -1⟩ := by decide +kernel
theorem wE1 : deE (pktH 6 0 #v[10, 1, 2, 3] 80) 0 = 0 := by decide +kernel
theorem wE2 : deE (pktH 17 0 #v[10, 2, 2, 3] 9) 0 = 0 := by decide +kernel
theorem wE3 : deE (pktH 17 9 #v[10, 1, 2, 3] 9) 0 = 0 := by decide +kernel
theorem en18 : Gx.Enters Tryz.prog 18 := Gx.Enters.mk' (by kernel_rfl)
theorem en7 : Gx.Enters Tryz.prog 7 := Gx.Enters.mk' (by kernel_rfl)
theorem z64 : (Tryz.prog.info? 64).bind (·.zero) = some ((arrE 4 u8E).val (arrE 4 u8E).zero) := by kernel_rfl
theorem en20 : Gx.Enters Tryz.prog 20 := Gx.Enters.mk' (by kernel_rfl)
theorem en19 : Gx.Enters Tryz.prog 19 := Gx.Enters.mk' (by kernel_rfl)
set_option maxRecDepth 8000 in
theorem works_ok (w : World) : Calls Tryz.prog 5 #[] w (RetV w (.bool true)) := by
  refine en0 61 Tryz.func5 ?_
  refine sg (co (Ev.assign (.c (v := .bool false) rfl)) ?_)
  refine nP (sg (cons (calln (X := CB) (fun _ => True) (fun x => eConf.val (x.c 1)) (fun x => x.R exL) en18 .nil (fun w I => example_ok w) (fun s0 _ => ?_))))
  refine cons (calln (X := Pl × List Res) (CompileJ exL 1) (fun x : Pl × List Res => .tuple #[.pointer (plO exL 1 x.1.b), I (plE exL 1)]) (fun x => x.2) en7 (.cons (.t rfl) .nil) (fun w I => compile_plan (s0.c 1) exL w (co5 (x := s0) (l := exL) w I) exL_names exL_n) (fun x1 hx1 => ?_))
  refine mv rfl (co (Ev.to (v' := .pointer (some ⟨x1.1.b, 0, none⟩)) (Ev.extract (.t rfl) rfl) (congrArg Value.pointer (if_pos exL_may))) ?_)
  refine co (Ev.to (v' := I 0) (Ev.extract (.t rfl) rfl) (congrArg Gx.I (if_pos exL_may))) ?_
  refine asn rfl (asn rfl (nP (seq (seq ?_))))
  obtain ⟨hpk, hpa⟩ := hx1 exL_may
  refine region (mv rfl (co (Ev.neq_i (.t rfl) (.c (v := I 0) rfl)) ?_))
  refine nP (condF rfl (rfl) ?_)
  refine skip (pN (sg (mv rfl (co (Ev.to (v' := (arrE 4 u8E).val #v[10, 1, 2, 3]) (Ev.buildA z64 Tryz.underlying64 ty5 (.cons (.c (v := U8 10) rfl) (.cons (.c (v := U8 1) rfl) (.cons (.c (v := U8 2) rfl) (.cons (.c (v := U8 3) rfl) .nil)))) (Fills.cons (lArr u8E 0 (by decide)) rfl (Fills.cons (lArr u8E 1 (by decide)) rfl (Fills.cons (lArr u8E 2 (by decide)) rfl (Fills.cons (lArr u8E 3 (by decide)) rfl Fills.nil))))) (rfl)) ?_))))
  refine cons (callv en20 (.cons (.c (v := U8 6) rfl) (.cons (.c (v := U8 0) rfl) (.cons (.t rfl) (.cons (.c (v := U16 80) rfl) .nil)))) (fun w I => packet_ok _ _ _ _ w) ?_)
  refine cons (callv en19 (.cons (.t rfl) (.cons (.c (v := I 1) rfl) (.cons (.t rfl) .nil))) (fun w I => decide_ok x1.1 exL 1 1 (pktH 6 0 #v[10, 1, 2, 3] 80) [] w (hpa w (fun r hr => (I.own r (by repeat first | exact hr | exact List.mem_append_left _ hr | apply List.Mem.tail | apply List.mem_append_right)).1)) hpk (IsSl.nil _ w) (by simp)) ?_)
  refine mv rfl (co (Ev.to (v' := eVerdict.val (⟨3, 3, 0, 0, -1⟩ : SVerdict)) (Ev.extract (.t rfl) rfl) (congrArg eVerdict.val wV1)) ?_)
  refine co (Ev.to (v' := I 0) (Ev.extract (.t rfl) rfl) (congrArg Gx.I wE1)) ?_
  refine cons (alloc z60 (fun b1 => ?_))
  refine cons (stv ty60 (Lens.id _) (.t rfl) (.t rfl) ?_)
  refine asn rfl (nP (sg (mv rfl (co (Ev.to (v' := (arrE 4 u8E).val #v[10, 2, 2, 3]) (Ev.buildA z64 Tryz.underlying64 ty5 (.cons (.c (v := U8 10) rfl) (.cons (.c (v := U8 2) rfl) (.cons (.c (v := U8 2) rfl) (.cons (.c (v := U8 3) rfl) .nil)))) (Fills.cons (lArr u8E 0 (by decide)) rfl (Fills.cons (lArr u8E 1 (by decide)) rfl (Fills.cons (lArr u8E 2 (by decide)) rfl (Fills.cons (lArr u8E 3 (by decide)) rfl Fills.nil))))) (rfl)) ?_))))
  refine cons (callv en20 (.cons (.c (v := U8 17) rfl) (.cons (.c (v := U8 0) rfl) (.cons (.t rfl) (.cons (.c (v := U16 9) rfl) .nil)))) (fun w I => packet_ok _ _ _ _ w) ?_)
  refine cons (callv en19 (.cons (.t rfl) (.cons (.c (v := I 3) rfl) (.cons (.t rfl) .nil))) (fun w I => decide_ok x1.1 exL 1 3 (pktH 17 0 #v[10, 2, 2, 3] 9) [] w (hpa w (fun r hr => (I.own r (by repeat first | exact hr | exact List.mem_append_left _ hr | apply List.Mem.tail | apply List.mem_append_right)).1)) hpk (IsSl.nil _ w) (by simp)) ?_)
  refine mv rfl (co (Ev.to (v' := eVerdict.val (⟨3, 2, -1, -1, -1⟩ : SVerdict)) (Ev.extract (.t rfl) rfl) (congrArg eVerdict.val wV2)) ?_)
  refine co (Ev.to (v' := I 0) (Ev.extract (.t rfl) rfl) (congrArg Gx.I wE2)) ?_
  refine cons (alloc z60 (fun b2 => ?_))
  refine cons (stv ty60 (Lens.id _) (.t rfl) (.t rfl) ?_)
  refine asn rfl (nP (sg (mv rfl (co (Ev.to (v' := (arrE 4 u8E).val #v[10, 1, 2, 3]) (Ev.buildA z64 Tryz.underlying64 ty5 (.cons (.c (v := U8 10) rfl) (.cons (.c (v := U8 1) rfl) (.cons (.c (v := U8 2) rfl) (.cons (.c (v := U8 3) rfl) .nil)))) (Fills.cons (lArr u8E 0 (by decide)) rfl (Fills.cons (lArr u8E 1 (by decide)) rfl (Fills.cons (lArr u8E 2 (by decide)) rfl (Fills.cons (lArr u8E 3 (by decide)) rfl Fills.nil))))) (rfl)) ?_))))
  refine cons (callv en20 (.cons (.c (v := U8 17) rfl) (.cons (.c (v := U8 9) rfl) (.cons (.t rfl) (.cons (.c (v := U16 9) rfl) .nil)))) (fun w I => packet_ok _ _ _ _ w) ?_)
  refine cons (callv en19 (.cons (.t rfl) (.cons (.c (v := I 1) rfl) (.cons (.t rfl) .nil))) (fun w I => decide_ok x1.1 exL 1 1 (pktH 17 9 #v[10, 1, 2, 3] 9) [] w (hpa w (fun r hr => (I.own r (by repeat first | exact hr | exact List.mem_append_left _ hr | apply List.Mem.tail | apply List.mem_append_right)).1)) hpk (IsSl.nil _ w) (by simp)) ?_)
  refine mv rfl (co (Ev.to (v' := eVerdict.val (⟨4, -1, 1, -1, -1⟩ : SVerdict)) (Ev.extract (.t rfl) rfl) (congrArg eVerdict.val wV3)) ?_)
  refine co (Ev.to (v' := I 0) (Ev.extract (.t rfl) rfl) (congrArg Gx.I wE3)) ?_
  refine cons (alloc z60 (fun b3 => ?_))
  refine cons (stv ty60 (Lens.id _) (.t rfl) (.t rfl) ?_)
  refine asn rfl (nP (sg (mv rfl (co (Ev.eql_i (.t rfl) (.c (v := I 0) rfl)) ?_))))
  refine mv rfl (cg rfl rfl (Ev.move (.t rfl)) ?_)
  refine cg rfl rfl (Ev.eql_i (.g rfl id) (.c (v := I 0) rfl)) ?_
  refine co (Ev.pkA (.t rfl) rfl) ?_
  refine mv rfl (cg rfl rfl (Ev.move (.t rfl)) ?_)
  refine cg rfl rfl (Ev.eql_i (.g rfl id) (.c (v := I 0) rfl)) ?_
  refine co (Ev.pkA (.t rfl) rfl) ?_
  refine mv rfl (cg rfl rfl (Ev.ldv ty60 (.t rfl) (Lens.id _)) ?_)
  refine cg rfl rfl (Ev.buildS (fs := _) (places := [(0, 1), (1, 1), (2, 1), (3, 1), (4, 1)]) z60 rfl Tryz.underlying60 (by kernel_rfl) (.cons (.c (v := I 3) rfl) (.cons (.c (v := I 3) rfl) (.cons (.c (v := I 0) rfl) (.cons (.c (v := I 0) rfl) (.cons (.c (v := I (-1)) rfl) .nil))))) (Fills.cons SVerdict.l_action rfl (Fills.cons SVerdict.l_out rfl (Fills.cons SVerdict.l_rule rfl (Fills.cons SVerdict.l_meter rfl (Fills.cons SVerdict.l_mirror rfl Fills.nil)))))) ?_
  refine cg rfl rfl (Ev.to (v' := .bool true) (Ev.eqlS rfl eqok60 rfl (by kernel_rfl) (.g rfl id) (.g rfl id)) (rfl)) ?_
  refine co (Ev.pkA (.t rfl) rfl) ?_
  refine mv rfl (cg rfl rfl (Ev.ldv ty60 (.t rfl) (Lens.id _)) ?_)
  refine cg rfl rfl (Ev.buildS (fs := _) (places := [(0, 1), (1, 1), (2, 1), (3, 1), (4, 1)]) z60 rfl Tryz.underlying60 (by kernel_rfl) (.cons (.c (v := I 3) rfl) (.cons (.c (v := I 2) rfl) (.cons (.c (v := I (-1)) rfl) (.cons (.c (v := I (-1)) rfl) (.cons (.c (v := I (-1)) rfl) .nil))))) (Fills.cons SVerdict.l_action rfl (Fills.cons SVerdict.l_out rfl (Fills.cons SVerdict.l_rule rfl (Fills.cons SVerdict.l_meter rfl (Fills.cons SVerdict.l_mirror rfl Fills.nil)))))) ?_
  refine cg rfl rfl (Ev.to (v' := .bool true) (Ev.eqlS rfl eqok60 rfl (by kernel_rfl) (.g rfl id) (.g rfl id)) (rfl)) ?_
  refine co (Ev.pkA (.t rfl) rfl) ?_
  refine mv rfl (cg rfl rfl (Ev.ldv ty60 (.t rfl) (Lens.id _)) ?_)
  refine cg rfl rfl (Ev.buildS (fs := _) (places := [(0, 1), (1, 1), (2, 1), (3, 1), (4, 1)]) z60 rfl Tryz.underlying60 (by kernel_rfl) (.cons (.c (v := I 4) rfl) (.cons (.c (v := I (-1)) rfl) (.cons (.c (v := I 1) rfl) (.cons (.c (v := I (-1)) rfl) (.cons (.c (v := I (-1)) rfl) .nil))))) (Fills.cons SVerdict.l_action rfl (Fills.cons SVerdict.l_out rfl (Fills.cons SVerdict.l_rule rfl (Fills.cons SVerdict.l_meter rfl (Fills.cons SVerdict.l_mirror rfl Fills.nil)))))) ?_
  refine cg rfl rfl (Ev.to (v' := .bool true) (Ev.eqlS rfl eqok60 rfl (by kernel_rfl) (.g rfl id) (.g rfl id)) (rfl)) ?_
  refine co (Ev.pkA (.t rfl) rfl) ?_
  refine asn rfl (nP (ret (done rfl (.tmp rfl .nil) (retE ?_))))
  rfl
end Go.Proofs.YtmdkmclgfgaahaaGreat
namespace Go.Proofs.YtmdkmclgfgaahaaGreat
open Go Go.Gx Go.Proofs.YtmdkmclgfgaahaaGreat.Tri
theorem fold_range {l : CL} {d : Int} (h : mayB l d = true) {r : SRule} (hr : r ∈ l.us) : nameB r.name = true ∧ okM r.match_ = true ∧ ¬ (r.action < 1 ∨ 4 < r.action) ∧ (r.meter = ⟨#[]⟩ ∨ r.meter ∈ l.ms.map (fun x => x.name)) ∧ (r.mirror = ⟨#[]⟩ ∨ r.mirror ∈ l.xs.map (fun x => x.name)) := by
  obtain ⟨i, hi, rfl⟩ := List.mem_iff_getElem.1 hr
  obtain ⟨z1, z2, z3, _, z5, _⟩ := ruleE_z.1 ((may_good h).us i hi)
  have e : l.us.getD i eRule.zero = l.us[i] := by simp [List.getD, hi]
  rw [e] at z1 z2 z3 z5
  refine ⟨z1, z2, z3, ?_, ?_⟩
  · by_cases e1 : l.us[i].meter = ⟨#[]⟩
    · exact .inl e1
    · refine .inr ((inM_iff (fun x : SMeterConf => x.name) l.ms _).1 ?_)
      cases hm : inM (metersM l) l.us[i].meter with
      | true => exact hm
      | false => exact absurd (.inl ⟨e1, hm⟩) z5
  · by_cases e1 : l.us[i].mirror = ⟨#[]⟩
    · exact .inl e1
    · refine .inr ((inM_iff (fun x : SMirrorConf => x.name) l.xs _).1 ?_)
      cases hm : inM (mirrorsM l) l.us[i].mirror with
      | true => exact hm
      | false => exact absurd (.inr ⟨e1, hm⟩) z5
theorem nameB_ne {s : ByteArray} (h : nameB s = true) : s ≠ ⟨#[]⟩ := fun e => by
  subst e
  cases h
theorem may_ms {l : CL} {d : Int} (h : mayB l d = true) : ∀ x ∈ l.ms, nameB x.name = true := fun x hx => by
  obtain ⟨i, hi, rfl⟩ := List.mem_iff_getElem.1 hx
  have h1 := (meterE_z.1 ((may_good h).ms i hi)).1
  have e : l.ms.getD i eMeterConf.zero = l.ms[i] := by simp [List.getD, hi]
  rwa [e] at h1
theorem may_xs {l : CL} {d : Int} (h : mayB l d = true) : ∀ x ∈ l.xs, nameB x.name = true := fun x hx => by
  obtain ⟨i, hi, rfl⟩ := List.mem_iff_getElem.1 hx
  have h1 := (mirrorE_z.1 ((may_good h).xs i hi)).1
  have e : l.xs.getD i eMirrorConf.zero = l.xs[i] := by simp [List.getD, hi]
  rwa [e] at h1
theorem nameI_spec {α : Type} {f : α → ByteArray} {l : List α} (hn : ∀ x ∈ l, nameB (f x) = true) {s : ByteArray} (hs : s = ⟨#[]⟩ ∨ s ∈ l.map f) (z : α) : (s = ⟨#[]⟩ ∧ nameI f l s = -1) ∨ (s ≠ ⟨#[]⟩ ∧ 0 ≤ nameI f l s ∧ nameI f l s < l.length ∧ f (l.getD (nameI f l s).toNat z) = s) := by
  by_cases e : s = ⟨#[]⟩
  · subst e
    exact .inl ⟨rfl, idx_none' fun y hy => decide_eq_false (nameB_ne (hn y hy))⟩
  · refine .inr ⟨e, ?_⟩
    rcases hs with hs | hs
    · exact absurd hs e
    obtain ⟨x, hx, rfl⟩ := List.mem_map.1 hs
    obtain ⟨i, hi, rfl⟩ := List.mem_iff_getElem.1 hx
    obtain ⟨A, y, B, e1, e2, e3, e4⟩ := idx_split (idxF_le (p := fun x => decide (f x = f l[i])) hi (decide_eq_true rfl)).1
    unfold nameI
    rw [e4]
    have hA : A.length < l.length := by rw [e1]; simp
    refine ⟨by omega, by omega, ?_⟩
    have e5 : ((A.length : Nat) : Int).toNat = A.length := by omega
    have e6 : l.getD A.length z = y := by
      rw [e1]
      simp [List.getD]
    rw [e5, e6]
    exact of_decide_eq_true e2
structure NamedAt (l : CL) (v : SVerdict) (f : Int) : Prop where
  rng : -1 ≤ f ∧ f < l.us.length
  m : v.meter = if 0 ≤ f then nameI (·.name) l.ms (l.us.getD f.toNat eRule.zero).meter else -1
  x : v.mirror = if 0 ≤ f then nameI (·.name) l.xs (l.us.getD f.toNat eRule.zero).mirror else -1
theorem getD_take2 {α : Type} (l : List α) (i : Int) (z : α) (h : 0 ≤ i ∧ i < l.length) : l.getD i.toNat z ∈ l := getD_in _ _ _ (by omega)
def strM (l : CL) (f : Int) : ByteArray := if 0 ≤ f then (l.us.getD f.toNat eRule.zero).meter else ⟨#[]⟩
def strX (l : CL) (f : Int) : ByteArray := if 0 ≤ f then (l.us.getD f.toNat eRule.zero).mirror else ⟨#[]⟩
theorem NamedAt.mm {l : CL} {d : Int} {v : SVerdict} {f : Int} (h : NamedAt l v f) (hm : mayB l d = true) : (strM l f = ⟨#[]⟩ ∧ v.meter = -1) ∨ (strM l f ≠ ⟨#[]⟩ ∧ 0 ≤ v.meter ∧ v.meter < l.ms.length ∧ (l.ms.getD v.meter.toNat eMeterConf.zero).name = strM l f) := by
  rw [h.m]
  unfold strM
  by_cases hf : 0 ≤ f
  · rw [if_pos hf, if_pos hf]
    exact nameI_spec (may_ms hm) (fold_range hm (getD_take2 l.us f _ ⟨hf, h.rng.2⟩)).2.2.2.1 _
  · rw [if_neg hf, if_neg hf]
    exact .inl ⟨rfl, rfl⟩
theorem NamedAt.xx {l : CL} {d : Int} {v : SVerdict} {f : Int} (h : NamedAt l v f) (hm : mayB l d = true) : (strX l f = ⟨#[]⟩ ∧ v.mirror = -1) ∨ (strX l f ≠ ⟨#[]⟩ ∧ 0 ≤ v.mirror ∧ v.mirror < l.xs.length ∧ (l.xs.getD v.mirror.toNat eMirrorConf.zero).name = strX l f) := by
  rw [h.x]
  unfold strX
  by_cases hf : 0 ≤ f
  · rw [if_pos hf, if_pos hf]
    exact nameI_spec (may_xs hm) (fold_range hm (getD_take2 l.us f _ ⟨hf, h.rng.2⟩)).2.2.2.2 _
  · rw [if_neg hf, if_neg hf]
    exact .inl ⟨rfl, rfl⟩
theorem vdL_at (l : CL) {k : Nat} (h : k < l.us.length) : (vdL l).getD k eVerdict.zero = vdV l k := by
  unfold vdL
  simp [List.getD, List.getElem?_append, h]
theorem vdL_end (l : CL) : (vdL l).getD l.us.length eVerdict.zero = noV := by
  unfold vdL
  simp [List.getD, List.getElem?_append]
theorem decV_parts {l : CL} {d n : Int} {h : SHeader} (hp : l.ps.any (fun x => decide (n = x)) = true) : NamedAt l (decV l d n h) (metI l n h) ∧ (decV l d n h).rule = metI l n h ∧ ((decV l d n h).action, (decV l d n h).out) = actO l.rs (actI l d (ruleI l n h)).1 (actI l d (ruleI l n h)).2 h.dst := by
  rw [decV_yes hp]
  have hr := metI_rng l n h
  by_cases hm : metI l n h < 0
  · have e : metI l n h = -1 := by omega
    rw [ruleI_lt hm, vdL_end, e]
    exact ⟨⟨by omega, rfl, rfl⟩, rfl, rfl⟩
  · have e := ruleI_ge hm
    have hlt : ruleI l n h < l.us.length := by omega
    rw [vdL_at l hlt]
    refine ⟨⟨by omega, ?_, ?_⟩, e, rfl⟩
    · rw [if_pos (by omega), ← e]
      rfl
    · rw [if_pos (by omega), ← e]
      rfl
theorem mtL_get (l : CL) {k : Nat} (h : k < l.us.length) (z : SMatch) : (mtL l).getD k z = (l.us.getD k eRule.zero).match_ := by
  simp [mtL, List.getD, h]
theorem may_okM {l : CL} {d : Int} (h : mayB l d = true) {k : Nat} (hk : k < l.us.length) : okM (l.us.getD k eRule.zero).match_ = true := (fold_range h (getD_in _ _ _ hk)).2.1
end Go.Proofs.YtmdkmclgfgaahaaGreat
namespace Go.Proofs.YtmdkmclgfgaahaaGreat
open Go Go.Gx Go.Proofs.YtmdkmclgfgaahaaGreat.Tri
end Go.Proofs.YtmdkmclgfgaahaaGreat
namespace Go.Proofs.YtmdkmclgfgaahaaGreat
open Go Go.Gx Go.Proofs.YtmdkmclgfgaahaaGreat.Tri
structure SLaw22Came where
  in_ : Int
  h : SHeader
def SLaw22Came.to : (Int × SHeader) → SLaw22Came := fun x => ⟨x.1, x.2⟩
def SLaw22Came.of : SLaw22Came → (Int × SHeader) := fun x => (x.in_, x.h)
def eLaw22Came : Enc SLaw22Came := isoE (prodE iE eHeader) SLaw22Came.to SLaw22Came.of
def SLaw22Came.l_in_ : Lens eLaw22Came iE 0 := lIso _ SLaw22Came.to SLaw22Came.of (fun _ => rfl) (lFst iE eHeader)
@[simp] theorem SLaw22Came.get_in_ (x : SLaw22Came) : SLaw22Came.l_in_.get x = x.in_ := rfl
@[simp] theorem SLaw22Came.set_in_ (x : SLaw22Came) (y : Int) : SLaw22Came.l_in_.set x y = { x with in_ := y } := rfl
def SLaw22Came.l_h : Lens eLaw22Came eHeader 1 := lIso _ SLaw22Came.to SLaw22Came.of (fun _ => rfl) (Lens.comp (lSnd iE eHeader) (Lens.id eHeader))
@[simp] theorem SLaw22Came.get_h (x : SLaw22Came) : SLaw22Came.l_h.get x = x.h := rfl
@[simp] theorem SLaw22Came.set_h (x : SLaw22Came) (y : SHeader) : SLaw22Came.l_h.set x y = { x with h := y } := rfl
structure PksAt (w : World) (xs : List SLaw22Came) (dts : List (List UInt8)) : Prop where
  sl : ∀ i, i < xs.length → IsSl u8E w (xs.getD i eLaw22Came.zero).h.data.v (dts.getD i [])
  ln : ∀ i, i < xs.length → (dts.getD i []).length ≤ 1152921504606846975
theorem decide_to (p : Pl) (l : CL) (d n : Int) (h : SHeader) (dt : List UInt8) (z : SVerdict) (e : Int) (w : World) (hp : PlanAt w p l d) (ho : PlanOK p l d) (hd : IsSl u8E w h.data.v dt) (hl : dt.length ≤ 1152921504606846975) (hz : dvV l d n h dt.length = z) (he : deE h dt.length = e) : Calls Tryz.prog 19 #[.pointer (some ⟨p.b, 0, none⟩), I n, eHeader.val h] w (RetV w (.tuple #[eVerdict.val z, I e])) := by
  subst hz he
  exact decide_ok p l d n h dt w hp ho hd hl
theorem deE_ok {h : SHeader} {c e : Int} (he : deE h c = e) (h0 : ¬ (¬ e = 0)) : ¬ checkH h c = 2 := fun hc => by
  unfold deE at he
  rw [if_pos hc] at he
  omega
def metQ (n : Int) (h : SHeader) (m : SMatch) : Bool := metB m n h
theorem down_step (l : CL) (n : Int) (h : SHeader) {k : Int} (hk : 0 ≤ k ∧ k < l.us.length) : firstF (metQ n h) ((mtL l).drop k.toNat) k = if metB (l.us.getD k.toNat eRule.zero).match_ n h = true then k else firstF (metQ n h) ((mtL l).drop (k + 1).toNat) (k + 1) := by
  have e : (k + 1).toNat = k.toNat + 1 := by omega
  rw [firstF_step (metQ n h) (mtL l) k.toNat k (by rw [mtL_len]; omega), mtL_get l (by omega), e]
  unfold metQ
  cases metB (l.us.getD k.toNat eRule.zero).match_ n h <;> rfl
theorem longN_stepI (rs : List SRoute) (a : SAddr) {i : Int} (hi : 0 ≤ i) : longN rs a (i + 1).toNat = if (hasP (rs.getD i.toNat eRoute.zero).to_ a && (decide (longN rs a i.toNat < 0) || decide ((rs.getD (longN rs a i.toNat).toNat eRoute.zero).to_.bits < (rs.getD i.toNat eRoute.zero).to_.bits))) = true then i else longN rs a i.toNat := by
  have e : (i + 1).toNat = i.toNat + 1 := by omega
  have e2 : ((i.toNat : Nat) : Int) = i := by omega
  rw [e, longN, e2]
theorem longN_rng (rs : List SRoute) (a : SAddr) (n : Nat) : -1 ≤ longN rs a n ∧ longN rs a n < n := by
  rcases longN_spec rs a n with ⟨h, _⟩ | ⟨k, h, h2, _⟩ <;> omega
end Go.Proofs.YtmdkmclgfgaahaaGreat
namespace Go.Proofs.YtmdkmclgfgaahaaGreat
open Go Go.Gx Go.Proofs.YtmdkmclgfgaahaaGreat.Tri
def emL : CL := ⟨[], [], [], [], []⟩
def cfL (l : CL) (d : Int) : CL := if mayB l d = true then l else emL
def cfD (l : CL) (d : Int) : Int := if mayB l d = true then d else 0
def moreL (l : CL) (m : SRoute) : CL := { l with rs := l.rs ++ [m] }
theorem pl_at2 {K : Ctx} {L : List Res} {r : Res} {q : List Res} {x : Pl × List Res} {l : CL} {d : Int} (h : ∀ w, (∀ q ∈ x.2, q.A w) → PlanAt w x.1 l d) (hm : Seps (Seps r x.2) q ∈ L) (w : World) (I : WInv K L w) : PlanAt w x.1 l d := h w (Seps.A _ _ (Seps.A _ _ (at_mem hm w I).1).1).2
end Go.Proofs.YtmdkmclgfgaahaaGreat
namespace Go.Proofs.YtmdkmclgfgaahaaGreat
open Go Go.Gx Go.Proofs.YtmdkmclgfgaahaaGreat.Tri
set_option maxRecDepth 8000 in
theorem decide_nil (n : Int) (h : SHeader) (w : World) : Calls Tryz.prog 19 #[.pointer none, I n, eHeader.val h] w (RetV w (.tuple #[eVerdict.val eVerdict.zero, I 1])) := by
  refine en0 62 Tryz.func19 ?_
  refine sg (cons (box (E := eHeader) (.t rfl) (fun b1 => ?_)))
  refine cons (alloc z60 (fun b2 => ?_))
  refine co (Ev.assign (.c (v := I 0) rfl)) ?_
  refine nP (seq (sg (mv rfl (cons (callv en31 (.cons (.t rfl) .nil) (fun w I => pthere_nil w) ?_)))))
  refine co (Ev.not (.t rfl)) ?_
  refine nP (condT rfl (rfl) ?_)
  refine sg (co (Ev.buildS (fs := _) (places := [(0, 1), (1, 1), (2, 1), (3, 1), (4, 1)]) z60 rfl Tryz.underlying60 (by kernel_rfl) .nil Fills.nil) ?_)
  refine cons (stv ty60 (Lens.id _) (.t rfl) (.t rfl) ?_)
  refine co (Ev.assign (.c (v := I 1) rfl)) ?_
  refine nP (ret (pR (done rfl (.cell rfl (fun w I => run_loadVar_pts ty60 (ptsVar (by repeat first | exact mH | apply mT | apply mA) (Lens.id _) w I)) (.tmp rfl .nil)) (retE ?_))))
  rfl
set_option maxRecDepth 8000 in
theorem like_bad (pa pb : Value) (n : Int) (h : SHeader) (v v2 : SVerdict) (e f : Int) (w : World) (ha : ∀ w1, Keeps Nope w w1 → Calls Tryz.prog 19 #[pa, I n, eHeader.val h] w1 (RetV w1 (.tuple #[eVerdict.val v, I e]))) (hb : ∀ w1, Keeps Nope w w1 → Calls Tryz.prog 19 #[pb, I n, eHeader.val h] w1 (RetV w1 (.tuple #[eVerdict.val v2, I f]))) (he : ¬ e = 0 ∨ ¬ f = 0) : Calls Tryz.prog 10 #[pa, pb, I n, eHeader.val h] w (RetV w (.bool false)) := by
  refine en0 113 Tryz.func10 ?_
  refine sg (cons (box (E := eHeader) (.t rfl) (fun b1 => ?_)))
  refine co (Ev.assign (.c (v := .bool false) rfl)) ?_
  refine nP (sg (mv rfl (mv rfl (co (Ev.ldx h ty43 (.t rfl) (Lens.id _)) ?_))))
  refine cons (callv en19 (.cons (.t rfl) (.cons (.t rfl) (.cons (.t rfl) .nil))) (fun w I => ha w I.keeps) ?_)
  refine mv rfl (co (Ev.extract (.t rfl) rfl) (co (Ev.extract (.t rfl) rfl) (cons (alloc z60 (fun b2 => ?_)))))
  refine cons (stv ty60 (Lens.id _) (.t rfl) (.t rfl) ?_)
  refine asn rfl (nP (sg (mv rfl (mv rfl (co (Ev.ldx h ty43 (.t rfl) (Lens.id _)) ?_)))))
  refine cons (callv en19 (.cons (.t rfl) (.cons (.t rfl) (.cons (.t rfl) .nil))) (fun w I => hb w I.keeps) ?_)
  refine mv rfl (co (Ev.extract (.t rfl) rfl) (co (Ev.extract (.t rfl) rfl) (cons (alloc z60 (fun b3 => ?_)))))
  refine cons (stv ty60 (Lens.id _) (.t rfl) (.t rfl) ?_)
  refine asn rfl (nP (seq (sg (mv rfl (co (Ev.neq_i (.t rfl) (.c (v := I 0) rfl)) ?_)))))
  refine mv rfl (cg rfl rfl (Ev.move (.t rfl)) ?_)
  refine cg rfl rfl (Ev.neq_i (.g rfl id) (.c (v := I 0) rfl)) ?_
  refine co (Ev.to (v' := .bool true) (Ev.pkO (.t rfl) rfl) (congrArg Value.bool (by rcases he with g | g <;> simp [g]))) ?_
  refine mv rfl (cg rfl rfl (fA 0 (.t rfl)) ?_)
  refine cg rfl rfl (Ev.ldv ty3 (.g rfl id) SVerdict.l_action) ?_
  refine cg rfl rfl (fA 0 (.t rfl)) ?_
  refine cg rfl rfl (Ev.ldv ty3 (.g rfl id) SVerdict.l_action) ?_
  refine cg rfl rfl (Ev.neq_i (.g rfl id) (.g rfl id)) ?_
  refine co (Ev.pkO (.t rfl) rfl) ?_
  refine mv rfl (cg rfl rfl (fA 1 (.t rfl)) ?_)
  refine cg rfl rfl (Ev.ldv ty3 (.g rfl id) SVerdict.l_out) ?_
  refine cg rfl rfl (fA 1 (.t rfl)) ?_
  refine cg rfl rfl (Ev.ldv ty3 (.g rfl id) SVerdict.l_out) ?_
  refine cg rfl rfl (Ev.neq_i (.g rfl id) (.g rfl id)) ?_
  refine co (Ev.pkO (.t rfl) rfl) ?_
  refine nP (condT rfl (by simp) ?_)
  refine sg (co (Ev.assign (.c (v := .bool false) rfl)) ?_)
  refine nP (ret (pR (done rfl (.tmp rfl .nil) (retE ?_))))
  rfl
def likeB (v w : SVerdict) (l k : CL) : Bool := decide (v.action = w.action) && (decide (v.out = w.out) && (decide (decide (v.meter < 0) = decide (w.meter < 0)) && (decide (decide (v.mirror < 0) = decide (w.mirror < 0)) && ((decide (v.meter < 0) || SMeterConf.eqb (l.ms.getD v.meter.toNat eMeterConf.zero) (k.ms.getD w.meter.toNat eMeterConf.zero)) && (decide (v.mirror < 0) || SMirrorConf.eqb (l.xs.getD v.mirror.toNat eMirrorConf.zero) (k.xs.getD w.mirror.toNat eMirrorConf.zero))))))
def likeV (l : CL) (d : Int) (k : CL) (e n : Int) (h : SHeader) (c : Int) : Bool := decide (deE h c = 0) && likeB (dvV l d n h c) (dvV k e n h c) l k
theorem dv_rng {l : CL} {d n c : Int} {h : SHeader} (hm : mayB l d = true) (hc : ¬ checkH h c = 2) : -1 ≤ (dvV l d n h c).meter ∧ (dvV l d n h c).meter < l.ms.length ∧ -1 ≤ (dvV l d n h c).mirror ∧ (dvV l d n h c).mirror < l.xs.length := by
  unfold dvV
  rw [if_neg hc]
  cases hp : l.ps.any (fun x => decide (n = x)) with
  | false =>
    rw [decV_no hp]
    refine ⟨by decide, ?_, by decide, ?_⟩
    · show (-1 : Int) < _; omega
    · show (-1 : Int) < _; omega
  | true =>
    have h1 := (decV_parts (d := d) (h := h) hp).1
    have h2 := h1.mm hm
    have h3 := h1.xx hm
    omega
set_option maxRecDepth 8000 in
theorem like_ok (p q : Pl) (l k : CL) (d e n : Int) (h : SHeader) (dt : List UInt8) (w : World) (hp : PlanAt w p l d) (hq : PlanAt w q k e) (hpo : PlanOK p l d) (hqo : PlanOK q k e) (hd : IsSl u8E w h.data.v dt) (hl : dt.length ≤ 1152921504606846975) : Calls Tryz.prog 10 #[.pointer (some ⟨p.b, 0, none⟩), .pointer (some ⟨q.b, 0, none⟩), I n, eHeader.val h] w (RetV w (.bool (likeV l d k e n h dt.length))) := by
  obtain ⟨V, hV⟩ : ∃ z, dvV l d n h dt.length = z := ⟨_, rfl⟩
  obtain ⟨W, hW⟩ : ∃ z, dvV k e n h dt.length = z := ⟨_, rfl⟩
  obtain ⟨E0, hE⟩ : ∃ z, deE h dt.length = z := ⟨_, rfl⟩
  refine en0 113 Tryz.func10 ?_
  refine sg (cons (box (E := eHeader) (.t rfl) (fun b1 => ?_)))
  refine co (Ev.assign (.c (v := .bool false) rfl)) ?_
  refine nP (sg (mv rfl (mv rfl (co (Ev.ldx h ty43 (.t rfl) (Lens.id _)) ?_))))
  refine cons (callv en19 (.cons (.t rfl) (.cons (.t rfl) (.cons (.t rfl) .nil))) (fun w I => decide_to p l d n h dt V E0 w (hp.keep I.keeps) hpo (hd.keep0 I.keeps) hl hV hE) ?_)
  refine mv rfl (co (Ev.extract (.t rfl) rfl) (co (Ev.extract (.t rfl) rfl) (cons (alloc z60 (fun b2 => ?_)))))
  refine cons (stv ty60 (Lens.id _) (.t rfl) (.t rfl) ?_)
  refine asn rfl (nP (sg (mv rfl (mv rfl (co (Ev.ldx h ty43 (.t rfl) (Lens.id _)) ?_)))))
  refine cons (callv en19 (.cons (.t rfl) (.cons (.t rfl) (.cons (.t rfl) .nil))) (fun w I => decide_to q k e n h dt W E0 w (hq.keep I.keeps) hqo (hd.keep0 I.keeps) hl hW hE) ?_)
  refine mv rfl (co (Ev.extract (.t rfl) rfl) (co (Ev.extract (.t rfl) rfl) (cons (alloc z60 (fun b3 => ?_)))))
  refine cons (stv ty60 (Lens.id _) (.t rfl) (.t rfl) ?_)
  refine asn rfl (nP (seq (sg (mv rfl (co (Ev.neq_i (.t rfl) (.c (v := I 0) rfl)) ?_)))))
  refine mv rfl (cg rfl rfl (Ev.move (.t rfl)) ?_)
  refine cg rfl rfl (Ev.neq_i (.g rfl id) (.c (v := I 0) rfl)) ?_
  refine co (Ev.pkO (.t rfl) rfl) ?_
  refine mv rfl (cg rfl rfl (fA 0 (.t rfl)) ?_)
  refine cg rfl rfl (Ev.ldv ty3 (.g rfl id) SVerdict.l_action) ?_
  refine cg rfl rfl (fA 0 (.t rfl)) ?_
  refine cg rfl rfl (Ev.ldv ty3 (.g rfl id) SVerdict.l_action) ?_
  refine cg rfl rfl (Ev.neq_i (.g rfl id) (.g rfl id)) ?_
  refine co (Ev.pkO (.t rfl) rfl) ?_
  refine mv rfl (cg rfl rfl (fA 1 (.t rfl)) ?_)
  refine cg rfl rfl (Ev.ldv ty3 (.g rfl id) SVerdict.l_out) ?_
  refine cg rfl rfl (fA 1 (.t rfl)) ?_
  refine cg rfl rfl (Ev.ldv ty3 (.g rfl id) SVerdict.l_out) ?_
  refine cg rfl rfl (Ev.neq_i (.g rfl id) (.g rfl id)) ?_
  refine co (Ev.pkO (.t rfl) rfl) ?_
  refine nP ?_
  first | refine condD rfl (fun h0 => ?_) (fun h0 => ?_) | refine cond rfl (fun h0 => ?_) (fun h0 => ?_)
  · have h08 : (((decide (¬ E0 = 0) || decide (¬ E0 = 0)) || decide (¬ V.action = W.action)) || decide (¬ V.out = W.out)) = true := h0
    clear h0
    refine sg (co (Ev.assign (.c (v := .bool false) rfl)) ?_)
    refine nP (ret (pR (done rfl (.tmp rfl .nil) (retE ?_))))
    have g : likeV l d k e n h dt.length = false := by
      unfold likeV likeB
      rw [hV, hW, hE]
      by_cases hA : E0 = 0 <;> by_cases hB : V.action = W.action <;> by_cases hC : V.out = W.out <;> simp [hA, hB, hC] at h08 ⊢
    rw [g]; rfl
  · have h08 : (((decide (¬ E0 = 0) || decide (¬ E0 = 0)) || decide (¬ V.action = W.action)) || decide (¬ V.out = W.out)) = false := h0
    have h09 : (E0 = 0 ∧ V.action = W.action) ∧ V.out = W.out := by simpa [and_assoc] using h08
    have hck := deE_ok hE (fun hh => hh h09.1.1)
    have hrv := dv_rng (n := n) hpo.may hck
    have hrw := dv_rng (n := n) hqo.may hck
    rw [hV] at hrv
    rw [hW] at hrw
    refine skip (pN (seq (sg (co (fA 3 (.t rfl)) ?_))))
    refine co (Ev.ldv ty3 (.t rfl) SVerdict.l_meter) ?_
    refine co (Ev.lss_i (.t rfl) (.c (v := I 0) rfl)) ?_
    refine co (fA 3 (.t rfl)) ?_
    refine co (Ev.ldv ty3 (.t rfl) SVerdict.l_meter) ?_
    refine co (Ev.lss_i (.t rfl) (.c (v := I 0) rfl)) ?_
    refine co (Ev.neq_b Tryz.underlying4 (.t rfl) (.t rfl)) ?_
    refine mv rfl (cg rfl rfl (fA 4 (.t rfl)) ?_)
    refine cg rfl rfl (Ev.ldv ty3 (.g rfl id) SVerdict.l_mirror) ?_
    refine cg rfl rfl (Ev.lss_i (.g rfl id) (.c (v := I 0) rfl)) ?_
    refine cg rfl rfl (fA 4 (.t rfl)) ?_
    refine cg rfl rfl (Ev.ldv ty3 (.g rfl id) SVerdict.l_mirror) ?_
    refine cg rfl rfl (Ev.lss_i (.g rfl id) (.c (v := I 0) rfl)) ?_
    refine cg rfl rfl (Ev.neq_b Tryz.underlying4 (.g rfl id) (.g rfl id)) ?_
    refine co (Ev.pkO (.t rfl) rfl) ?_
    refine nP ?_
    first | refine condD rfl (fun h1 => ?_) (fun h1 => ?_) | refine cond rfl (fun h1 => ?_) (fun h1 => ?_)
    · have h18 : (decide (¬ decide (V.meter < 0) = decide (W.meter < 0)) || decide (¬ decide (V.mirror < 0) = decide (W.mirror < 0))) = true := h1
      clear h1
      refine sg (co (Ev.assign (.c (v := .bool false) rfl)) ?_)
      refine nP (ret (pR (done rfl (.tmp rfl .nil) (retE ?_))))
      have g : likeV l d k e n h dt.length = false := by
        unfold likeV likeB
        rw [hV, hW, hE]
        by_cases hA : decide (V.meter < 0) = decide (W.meter < 0)
        · by_cases hB : decide (V.mirror < 0) = decide (W.mirror < 0)
          · rw [hA, hB] at h18
            simp at h18
          · rw [decide_eq_false hB]
            simp
        · rw [decide_eq_false hA]
          simp
      rw [g]; rfl
    · have h18 : (decide (¬ decide (V.meter < 0) = decide (W.meter < 0)) || decide (¬ decide (V.mirror < 0) = decide (W.mirror < 0))) = false := h1
      have h19 : decide (V.meter < 0) = decide (W.meter < 0) ∧ decide (V.mirror < 0) = decide (W.mirror < 0) := by simpa using h18
      have hs1 : V.meter < 0 ↔ W.meter < 0 := by
        have := h19.1
        rwa [Bool.eq_iff_iff, decide_eq_true_iff, decide_eq_true_iff] at this
      have hs2 : V.mirror < 0 ↔ W.mirror < 0 := by
        have := h19.2
        rwa [Bool.eq_iff_iff, decide_eq_true_iff, decide_eq_true_iff] at this
      refine skip (pN (seq (draw' (by kernel_rfl) ?_)))
      refine tk 0 rfl (fA 3 (.t rfl)) ?_
      refine tk 1 rfl (Ev.ldv ty3 (.t rfl) SVerdict.l_meter) ?_
      refine tk 2 rfl (Ev.lss_i (.t rfl) (.c (v := I 0) rfl)) ?_
      refine tk 3 rfl (Ev.move (.t rfl)) ?_
      refine tkg 4 rfl rfl rfl (Ev.move (.t rfl)) ?_
      refine tkg 5 rfl rfl rfl (Ev.nilCheck (.g rfl id)) ?_
      refine tkg 6 rfl rfl rfl (fA 0 (.g rfl id)) ?_
      refine tkg 7 rfl rfl rfl (fA 3 (.g rfl id)) ?_
      refine tkg 8 rfl rfl rfl (Ev.load ty25 (.g rfl id) (ptsL (fun w I => (hp).pt.keep I.keeps) (Lens.comp SPlanPlan.l_conf SConf.l_meters))) ?_
      refine tkg 9 rfl rfl rfl (fA 3 (.t rfl)) ?_
      refine tkg 10 rfl rfl rfl (Ev.ldv ty3 (.g rfl id) SVerdict.l_meter) ?_
      refine tkg 11 rfl rfl rfl (Ev.indexAddr Tryz.underlying25 ty81 (.g rfl id) (.g rfl id) (fun w I => (hp.cf.keep0 I.keeps).ms) (fun _ => by
        rename_i hg
        have hgg : ¬ V.meter < 0 := fun hh => by
          have h9 : (decide (V.meter < 0) == false) = true := (Bool.and_eq_true_iff.1 hg).2
          rw [decide_eq_true hh] at h9
          cases h9
        show 0 ≤ V.meter ∧ V.meter < _
        omega)) ?_
      refine tkg 12 rfl rfl rfl (Ev.loadS0 ty81 (.g rfl id) (fun w I => (hp.cf.keep0 I.keeps).ms) (fun _ => by
        rename_i hg
        have hgg : ¬ V.meter < 0 := fun hh => by
          have h9 : (decide (V.meter < 0) == false) = true := (Bool.and_eq_true_iff.1 hg).2
          rw [decide_eq_true hh] at h9
          cases h9
        show 0 ≤ V.meter ∧ V.meter < _
        omega)) ?_
      refine tkg 13 rfl rfl rfl (Ev.move (.t rfl)) ?_
      refine tkg 14 rfl rfl rfl (Ev.nilCheck (.g rfl id)) ?_
      refine tkg 15 rfl rfl rfl (fA 0 (.g rfl id)) ?_
      refine tkg 16 rfl rfl rfl (fA 3 (.g rfl id)) ?_
      refine tkg 17 rfl rfl rfl (Ev.load ty25 (.g rfl id) (ptsL (fun w I => (hq).pt.keep I.keeps) (Lens.comp SPlanPlan.l_conf SConf.l_meters))) ?_
      refine tkg 18 rfl rfl rfl (fA 3 (.t rfl)) ?_
      refine tkg 19 rfl rfl rfl (Ev.ldv ty3 (.g rfl id) SVerdict.l_meter) ?_
      refine tkg 20 rfl rfl rfl (Ev.indexAddr Tryz.underlying25 ty81 (.g rfl id) (.g rfl id) (fun w I => (hq.cf.keep0 I.keeps).ms) (fun _ => by
        rename_i hg
        have hgg : ¬ V.meter < 0 := fun hh => by
          have h9 : (decide (V.meter < 0) == false) = true := (Bool.and_eq_true_iff.1 hg).2
          rw [decide_eq_true hh] at h9
          cases h9
        show 0 ≤ W.meter ∧ W.meter < _
        omega)) ?_
      refine tkg 21 rfl rfl rfl (Ev.loadS0 ty81 (.g rfl id) (fun w I => (hq.cf.keep0 I.keeps).ms) (fun _ => by
        rename_i hg
        have hgg : ¬ V.meter < 0 := fun hh => by
          have h9 : (decide (V.meter < 0) == false) = true := (Bool.and_eq_true_iff.1 hg).2
          rw [decide_eq_true hh] at h9
          cases h9
        show 0 ≤ W.meter ∧ W.meter < _
        omega)) ?_
      refine tkg 22 rfl rfl rfl (Ev.eqlS rfl eqok81 rfl (by kernel_rfl) (.g rfl id) (.g rfl id)) ?_
      refine tk 23 rfl (Ev.pkO (.t rfl) rfl) ?_
      refine tk 24 rfl (Ev.move (.t rfl)) ?_
      refine tkg 25 rfl rfl rfl (fA 4 (.t rfl)) ?_
      refine tkg 26 rfl rfl rfl (Ev.ldv ty3 (.g rfl id) SVerdict.l_mirror) ?_
      refine tkg 27 rfl rfl rfl (Ev.lss_i (.g rfl id) (.c (v := I 0) rfl)) ?_
      refine tkg 28 rfl rfl rfl (Ev.move (.g rfl id)) ?_
      refine tkg 29 rfl rfl rfl (Ev.move (.t rfl)) ?_
      refine tkg 30 rfl rfl rfl (Ev.nilCheck (.g rfl id)) ?_
      refine tkg 31 rfl rfl rfl (fA 0 (.g rfl id)) ?_
      refine tkg 32 rfl rfl rfl (fA 4 (.g rfl id)) ?_
      refine tkg 33 rfl rfl rfl (Ev.load ty26 (.g rfl id) (ptsL (fun w I => (hp).pt.keep I.keeps) (Lens.comp SPlanPlan.l_conf SConf.l_mirrors))) ?_
      refine tkg 34 rfl rfl rfl (fA 4 (.t rfl)) ?_
      refine tkg 35 rfl rfl rfl (Ev.ldv ty3 (.g rfl id) SVerdict.l_mirror) ?_
      refine tkg 36 rfl rfl rfl (Ev.indexAddr Tryz.underlying26 ty83 (.g rfl id) (.g rfl id) (fun w I => (hp.cf.keep0 I.keeps).xs) (fun _ => by
        rename_i hg
        have hgg : ¬ V.mirror < 0 := fun hh => by
          have h9 : (decide (V.mirror < 0) == false) = true := (Bool.and_eq_true_iff.1 hg).2
          rw [decide_eq_true hh] at h9
          cases h9
        show 0 ≤ V.mirror ∧ V.mirror < _
        omega)) ?_
      refine tkg 37 rfl rfl rfl (Ev.loadS0 ty83 (.g rfl id) (fun w I => (hp.cf.keep0 I.keeps).xs) (fun _ => by
        rename_i hg
        have hgg : ¬ V.mirror < 0 := fun hh => by
          have h9 : (decide (V.mirror < 0) == false) = true := (Bool.and_eq_true_iff.1 hg).2
          rw [decide_eq_true hh] at h9
          cases h9
        show 0 ≤ V.mirror ∧ V.mirror < _
        omega)) ?_
      refine tkg 38 rfl rfl rfl (Ev.move (.t rfl)) ?_
      refine tkg 39 rfl rfl rfl (Ev.nilCheck (.g rfl id)) ?_
      refine tkg 40 rfl rfl rfl (fA 0 (.g rfl id)) ?_
      refine tkg 41 rfl rfl rfl (fA 4 (.g rfl id)) ?_
      refine tkg 42 rfl rfl rfl (Ev.load ty26 (.g rfl id) (ptsL (fun w I => (hq).pt.keep I.keeps) (Lens.comp SPlanPlan.l_conf SConf.l_mirrors))) ?_
      refine tkg 43 rfl rfl rfl (fA 4 (.t rfl)) ?_
      refine tkg 44 rfl rfl rfl (Ev.ldv ty3 (.g rfl id) SVerdict.l_mirror) ?_
      refine tkg 45 rfl rfl rfl (Ev.indexAddr Tryz.underlying26 ty83 (.g rfl id) (.g rfl id) (fun w I => (hq.cf.keep0 I.keeps).xs) (fun _ => by
        rename_i hg
        have hgg : ¬ V.mirror < 0 := fun hh => by
          have h9 : (decide (V.mirror < 0) == false) = true := (Bool.and_eq_true_iff.1 hg).2
          rw [decide_eq_true hh] at h9
          cases h9
        show 0 ≤ W.mirror ∧ W.mirror < _
        omega)) ?_
      refine tkg 46 rfl rfl rfl (Ev.loadS0 ty83 (.g rfl id) (fun w I => (hq.cf.keep0 I.keeps).xs) (fun _ => by
        rename_i hg
        have hgg : ¬ V.mirror < 0 := fun hh => by
          have h9 : (decide (V.mirror < 0) == false) = true := (Bool.and_eq_true_iff.1 hg).2
          rw [decide_eq_true hh] at h9
          cases h9
        show 0 ≤ W.mirror ∧ W.mirror < _
        omega)) ?_
      refine tkg 47 rfl rfl rfl (Ev.eqlS rfl eqok83 rfl (by kernel_rfl) (.g rfl id) (.g rfl id)) ?_
      refine tkg 48 rfl rfl rfl (Ev.pkO (.g rfl id) rfl) ?_
      refine tk 49 rfl (Ev.pkA (.t rfl) rfl) ?_
      refine tk 50 rfl (Ev.assign (.t rfl)) ?_
      refine ovr (pN (ret (done rfl (.tmp rfl .nil) (retE ?_))))
      have g : likeV l d k e n h dt.length = ((decide (V.meter < 0) || SMeterConf.eqb (l.ms.getD V.meter.toNat eMeterConf.zero) (k.ms.getD W.meter.toNat eMeterConf.zero)) && (decide (V.mirror < 0) || SMirrorConf.eqb (l.xs.getD V.mirror.toNat eMirrorConf.zero) (k.xs.getD W.mirror.toNat eMirrorConf.zero))) := by
        unfold likeV likeB
        rw [hV, hW, hE, h09.1.1, h09.1.2, h09.2, h19.1, h19.2, decide_eq_true rfl, decide_eq_true rfl, decide_eq_true rfl, decide_eq_true rfl, decide_eq_true rfl]
        rfl
      rw [g]; rfl
end Go.Proofs.YtmdkmclgfgaahaaGreat
namespace Go.Proofs.YtmdkmclgfgaahaaGreat
open Go Go.Gx Go.Proofs.YtmdkmclgfgaahaaGreat.Tri
def incN {α : Type} (q : α → α → Bool) (d : Int) (l : List α) (m : List (α × Int)) : Nat → List (α × Int)
  | 0 => m
  | n + 1 => match l[n]? with
    | none => incN q d l m n
    | some x => putL q x ((findV q x (incN q d l m n)).getD 0 + d) (incN q d l m n)
def alikeM {α : Type} (q : α → α → Bool) (l k : List α) : List (α × Int) := incN q (-1) k (incN q 1 l [] l.length) k.length
def alikeB {α : Type} (q : α → α → Bool) (l k : List α) : Bool := (alikeM q l k).all (fun p => decide (p.2 = 0))
def sameB (a b : CL) (d e : Int) : Bool := decide (d = e) && (decide (a.ps = b.ps) && (decide (a.us = b.us) && (alikeB SRoute.eqb a.rs b.rs && (alikeB SMeterConf.eqb a.ms b.ms && alikeB SMirrorConf.eqb a.xs b.xs))))
end Go.Proofs.YtmdkmclgfgaahaaGreat
namespace Go.Proofs.YtmdkmclgfgaahaaGreat
open Go Go.Gx Go.Proofs.YtmdkmclgfgaahaaGreat.Tri
theorem rport_ok (c : SConf) (l : CL) (p : Int) (w : World) (hc : ConfAt w c l) : Calls Tryz.prog 106 #[eConf.val c, I p] w (RetV w (.bool (portB l p))) := by
  have hle := hc.ps.le
  refine en0 20 Tryz.func106 ?_
  refine sg (cons (box (E := eConf) (.t rfl) (fun b1 => ?_)))
  refine co (Ev.assign (.c (v := .bool false) rfl)) ?_
  refine nP (seq (sg (co (Ev.assign (.c (v := I 0) rfl)) ?_)))
  refine nP (block (lp (X := Int) (fun x : Int => (0 ≤ x ∧ x ≤ l.ps.length) ∧ (∀ k : Nat, k < x → ¬ l.ps.getD k iE.zero = p)) (fun x : Int => [dz, (1, true, I p), (2, true, .pointer (some ⟨b1, 0, none⟩)), (5, true, I x)]) (fun x : Int => [Var b1 eConf c 28]) (fun x : Int => ((l.ps.length : Int) - x).toNat) (0) ⟨?_, ?_⟩ (fun x hx => ?_)))
  · omega
  · intro k h; omega
  obtain ⟨i, rfl⟩ : ∃ y, y = x := ⟨x, rfl⟩
  obtain ⟨hi, hq⟩ : (0 ≤ i ∧ i ≤ l.ps.length) ∧ (∀ k : Nat, k < i → ¬ l.ps.getD k iE.zero = p) := hx
  show Sat _ _ [dz, (1, true, I p), (2, true, .pointer (some ⟨b1, 0, none⟩)), (5, true, I i)] [Var b1 eConf c 28]
  refine seq (sg (mv rfl (co (fA 0 (.t rfl)) ?_)))
  refine co (Ev.ldx c.ports ty22 (.t rfl) SConf.l_ports) ?_
  refine co (Ev.len Tryz.underlying22 (.t rfl) (fun w I => (hc.keep0 I.keeps).ps)) ?_
  refine co (Ev.lss_i (.t rfl) (.t rfl)) ?_
  refine nP ?_
  first | refine condD rfl (fun h0 => ?_) (fun h0 => ?_) | refine cond rfl (fun h0 => ?_) (fun h0 => ?_)
  · try simp only [Gx.nb] at h0
    refine skip (pN (seq (block (sg (co (fA 0 (.t rfl)) ?_)))))
    refine co (Ev.ldx c.ports ty22 (.t rfl) SConf.l_ports) ?_
    refine mv rfl (co (Ev.indexAddr Tryz.underlying22 ty3 (.t rfl) (.t rfl) (fun w I => (hc.keep0 I.keeps).ps) (fun _ => by omega)) ?_)
    refine co (Ev.loadS0 ty3 (.t rfl) (fun w I => (hc.keep0 I.keeps).ps) (fun _ => by omega)) ?_
    refine mv rfl (co (Ev.eql_i (.t rfl) (.t rfl)) ?_)
    refine nP ?_
    first | refine condD rfl (fun h1 => ?_) (fun h1 => ?_) | refine cond rfl (fun h1 => ?_) (fun h1 => ?_)
    · try simp only [Gx.nb] at h1
      refine sg (co (Ev.assign (.c (v := .bool true) rfl)) ?_)
      refine nP (ret (bR (pR (pR (bR (pR (done rfl (.tmp rfl .nil) (retE ?_))))))))
      have hb : portB l p = true := (portB_iff l p).2 (h1 ▸ getD_in _ _ _ (by omega))
      rw [hb]; rfl
    · try simp only [Gx.nb] at h1
      refine skip (bN (pN (region (mv rfl (co (Ev.add_i (.t rfl) (.c (v := I 1) rfl) (fun _ => by omega)) ?_)))))
      refine asn rfl (nP (nx (X := Int) (i + 1) ⟨?_, ?_⟩ ?_))
      · try dsimp only
        omega
      · try dsimp only
        intro k h
        by_cases e : (k : Int) < i
        · exact hq k e
        · obtain rfl : k = i.toNat := by omega
          exact h1
      · try dsimp only
        omega
  · try simp only [Gx.nb] at h0
    refine exit (pX (pX (bX (pN (sg (co (Ev.assign (.c (v := .bool false) rfl)) ?_))))))
    refine nP (ret (done rfl (.tmp rfl .nil) (retE ?_)))
    have hb : portB l p = false := by
      rw [Bool.eq_false_iff]
      intro h
      obtain ⟨k, hk, e⟩ := List.mem_iff_getElem.1 ((portB_iff l p).1 h)
      exact hq k (by omega) (by simp [List.getD, hk, e])
    rw [hb]; rfl
theorem rmeter_ix (c : SConf) (l : CL) (a : ByteArray) (w : World) (hc : ConfAt w c l) : Calls Tryz.prog 110 #[eConf.val c, sE.val a] w (RetV w (I (idxF (fun x => decide (x.name = a)) l.ms))) := by
  have hle := hc.ms.le
  refine en0 22 Tryz.func110 ?_
  refine sg (cons (box (E := eConf) (.t rfl) (fun b1 => ?_)))
  refine co (Ev.assign (.c (v := I 0) rfl)) ?_
  refine nP (seq (sg (co (Ev.assign (.c (v := I 0) rfl)) ?_)))
  refine nP (block (lp (X := Int) (fun x : Int => (0 ≤ x ∧ x ≤ l.ms.length) ∧ (∀ k : Nat, k < x → (fun x => decide (x.name = a)) (l.ms.getD k eMeterConf.zero) = false)) (fun x : Int => [dz, (1, true, sE.val a), (2, true, .pointer (some ⟨b1, 0, none⟩)), (5, true, I x)]) (fun x : Int => [Var b1 eConf c 28]) (fun x : Int => ((l.ms.length : Int) - x).toNat) (0) ⟨?_, ?_⟩ (fun x hx => ?_)))
  · omega
  · intro k h; omega
  obtain ⟨i, rfl⟩ : ∃ y, y = x := ⟨x, rfl⟩
  obtain ⟨hi, hq⟩ : (0 ≤ i ∧ i ≤ l.ms.length) ∧ (∀ k : Nat, k < i → (fun x => decide (x.name = a)) (l.ms.getD k eMeterConf.zero) = false) := hx
  show Sat _ _ [dz, (1, true, sE.val a), (2, true, .pointer (some ⟨b1, 0, none⟩)), (5, true, I i)] [Var b1 eConf c 28]
  refine seq (sg (mv rfl (co (fA 3 (.t rfl)) ?_)))
  refine co (Ev.ldx c.meters ty25 (.t rfl) SConf.l_meters) ?_
  refine co (Ev.len Tryz.underlying25 (.t rfl) (fun w I => (hc.keep0 I.keeps).ms)) ?_
  refine co (Ev.lss_i (.t rfl) (.t rfl)) ?_
  refine nP ?_
  first | refine condD rfl (fun h0 => ?_) (fun h0 => ?_) | refine cond rfl (fun h0 => ?_) (fun h0 => ?_)
  · try simp only [Gx.nb] at h0
    refine skip (pN (seq (block (sg (co (fA 3 (.t rfl)) ?_)))))
    refine co (Ev.ldx c.meters ty25 (.t rfl) SConf.l_meters) ?_
    refine mv rfl (co (Ev.indexAddr Tryz.underlying25 ty81 (.t rfl) (.t rfl) (fun w I => (hc.keep0 I.keeps).ms) (fun _ => by omega)) ?_)
    refine co (Ev.fieldAddrS (o := 0) (i := i) (.t rfl) (fun w I => (hc.keep0 I.keeps).ms) (fun _ => by omega) (by kernel_rfl)) ?_
    refine co (Ev.loadS ty9 SMeterConf.l_name rfl (.t rfl) (fun w I => (hc.keep0 I.keeps).ms) (fun _ => by omega)) ?_
    refine mv rfl (co (Ev.eql_s (.t rfl) (.t rfl)) ?_)
    refine nP ?_
    first | refine condD rfl (fun h1 => ?_) (fun h1 => ?_) | refine cond rfl (fun h1 => ?_) (fun h1 => ?_)
    · refine sg (mv rfl (asn rfl (nP (ret (bR (pR (pR (bR (pR (done rfl (.tmp rfl .nil) (retE ?_)))))))))))
      rw [idx_at (p := fun x => decide (x.name = a)) eMeterConf.zero (by omega) hq (by first | exact h1 | exact decide_eq_true h1)]; rfl
    · refine skip (bN (pN (region (mv rfl (co (Ev.add_i (.t rfl) (.c (v := I 1) rfl) (fun _ => by omega)) ?_)))))
      refine asn rfl (nP (nx (X := Int) (i + 1) ⟨?_, ?_⟩ ?_))
      · try dsimp only
        omega
      · try dsimp only
        intro k h
        by_cases e : (k : Int) < i
        · exact hq k e
        · obtain rfl : k = i.toNat := by omega
          first | exact h1 | exact decide_eq_false h1
      · try dsimp only
        omega
  · try simp only [Gx.nb] at h0
    refine exit (pX (pX (bX (pN (sg (co (Ev.assign (.c (v := I (-1)) rfl)) ?_))))))
    refine nP (ret (done rfl (.tmp rfl .nil) (retE ?_)))
    rw [idx_none (p := fun x => decide (x.name = a)) eMeterConf.zero (fun k hk => hq k (by omega))]; rfl
theorem rmirror_ix (c : SConf) (l : CL) (a : ByteArray) (w : World) (hc : ConfAt w c l) : Calls Tryz.prog 111 #[eConf.val c, sE.val a] w (RetV w (I (idxF (fun x => decide (x.name = a)) l.xs))) := by
  have hle := hc.xs.le
  refine en0 22 Tryz.func111 ?_
  refine sg (cons (box (E := eConf) (.t rfl) (fun b1 => ?_)))
  refine co (Ev.assign (.c (v := I 0) rfl)) ?_
  refine nP (seq (sg (co (Ev.assign (.c (v := I 0) rfl)) ?_)))
  refine nP (block (lp (X := Int) (fun x : Int => (0 ≤ x ∧ x ≤ l.xs.length) ∧ (∀ k : Nat, k < x → (fun x => decide (x.name = a)) (l.xs.getD k eMirrorConf.zero) = false)) (fun x : Int => [dz, (1, true, sE.val a), (2, true, .pointer (some ⟨b1, 0, none⟩)), (5, true, I x)]) (fun x : Int => [Var b1 eConf c 28]) (fun x : Int => ((l.xs.length : Int) - x).toNat) (0) ⟨?_, ?_⟩ (fun x hx => ?_)))
  · omega
  · intro k h; omega
  obtain ⟨i, rfl⟩ : ∃ y, y = x := ⟨x, rfl⟩
  obtain ⟨hi, hq⟩ : (0 ≤ i ∧ i ≤ l.xs.length) ∧ (∀ k : Nat, k < i → (fun x => decide (x.name = a)) (l.xs.getD k eMirrorConf.zero) = false) := hx
  show Sat _ _ [dz, (1, true, sE.val a), (2, true, .pointer (some ⟨b1, 0, none⟩)), (5, true, I i)] [Var b1 eConf c 28]
  refine seq (sg (mv rfl (co (fA 4 (.t rfl)) ?_)))
  refine co (Ev.ldx c.mirrors ty26 (.t rfl) SConf.l_mirrors) ?_
  refine co (Ev.len Tryz.underlying26 (.t rfl) (fun w I => (hc.keep0 I.keeps).xs)) ?_
  refine co (Ev.lss_i (.t rfl) (.t rfl)) ?_
  refine nP ?_
  first | refine condD rfl (fun h0 => ?_) (fun h0 => ?_) | refine cond rfl (fun h0 => ?_) (fun h0 => ?_)
  · try simp only [Gx.nb] at h0
    refine skip (pN (seq (block (sg (co (fA 4 (.t rfl)) ?_)))))
    refine co (Ev.ldx c.mirrors ty26 (.t rfl) SConf.l_mirrors) ?_
    refine mv rfl (co (Ev.indexAddr Tryz.underlying26 ty83 (.t rfl) (.t rfl) (fun w I => (hc.keep0 I.keeps).xs) (fun _ => by omega)) ?_)
    refine co (Ev.fieldAddrS (o := 0) (i := i) (.t rfl) (fun w I => (hc.keep0 I.keeps).xs) (fun _ => by omega) (by kernel_rfl)) ?_
    refine co (Ev.loadS ty9 SMirrorConf.l_name rfl (.t rfl) (fun w I => (hc.keep0 I.keeps).xs) (fun _ => by omega)) ?_
    refine mv rfl (co (Ev.eql_s (.t rfl) (.t rfl)) ?_)
    refine nP ?_
    first | refine condD rfl (fun h1 => ?_) (fun h1 => ?_) | refine cond rfl (fun h1 => ?_) (fun h1 => ?_)
    · refine sg (mv rfl (asn rfl (nP (ret (bR (pR (pR (bR (pR (done rfl (.tmp rfl .nil) (retE ?_)))))))))))
      rw [idx_at (p := fun x => decide (x.name = a)) eMirrorConf.zero (by omega) hq (by first | exact h1 | exact decide_eq_true h1)]; rfl
    · refine skip (bN (pN (region (mv rfl (co (Ev.add_i (.t rfl) (.c (v := I 1) rfl) (fun _ => by omega)) ?_)))))
      refine asn rfl (nP (nx (X := Int) (i + 1) ⟨?_, ?_⟩ ?_))
      · try dsimp only
        omega
      · try dsimp only
        intro k h
        by_cases e : (k : Int) < i
        · exact hq k e
        · obtain rfl : k = i.toNat := by omega
          first | exact h1 | exact decide_eq_false h1
      · try dsimp only
        omega
  · try simp only [Gx.nb] at h0
    refine exit (pX (pX (bX (pN (sg (co (Ev.assign (.c (v := I (-1)) rfl)) ?_))))))
    refine nP (ret (done rfl (.tmp rfl .nil) (retE ?_)))
    rw [idx_none (p := fun x => decide (x.name = a)) eMirrorConf.zero (fun k hk => hq k (by omega))]; rfl
theorem rrule_ix (c : SConf) (l : CL) (a : ByteArray) (w : World) (hc : ConfAt w c l) : Calls Tryz.prog 109 #[eConf.val c, sE.val a] w (RetV w (I (idxF (fun x => decide (x.name = a)) l.us))) := by
  have hle := hc.us.le
  refine en0 22 Tryz.func109 ?_
  refine sg (cons (box (E := eConf) (.t rfl) (fun b1 => ?_)))
  refine co (Ev.assign (.c (v := I 0) rfl)) ?_
  refine nP (seq (sg (co (Ev.assign (.c (v := I 0) rfl)) ?_)))
  refine nP (block (lp (X := Int) (fun x : Int => (0 ≤ x ∧ x ≤ l.us.length) ∧ (∀ k : Nat, k < x → (fun x => decide (x.name = a)) (l.us.getD k eRule.zero) = false)) (fun x : Int => [dz, (1, true, sE.val a), (2, true, .pointer (some ⟨b1, 0, none⟩)), (5, true, I x)]) (fun x : Int => [Var b1 eConf c 28]) (fun x : Int => ((l.us.length : Int) - x).toNat) (0) ⟨?_, ?_⟩ (fun x hx => ?_)))
  · omega
  · intro k h; omega
  obtain ⟨i, rfl⟩ : ∃ y, y = x := ⟨x, rfl⟩
  obtain ⟨hi, hq⟩ : (0 ≤ i ∧ i ≤ l.us.length) ∧ (∀ k : Nat, k < i → (fun x => decide (x.name = a)) (l.us.getD k eRule.zero) = false) := hx
  show Sat _ _ [dz, (1, true, sE.val a), (2, true, .pointer (some ⟨b1, 0, none⟩)), (5, true, I i)] [Var b1 eConf c 28]
  refine seq (sg (mv rfl (co (fA 2 (.t rfl)) ?_)))
  refine co (Ev.ldx c.rules ty24 (.t rfl) SConf.l_rules) ?_
  refine co (Ev.len Tryz.underlying24 (.t rfl) (fun w I => (hc.keep0 I.keeps).us)) ?_
  refine co (Ev.lss_i (.t rfl) (.t rfl)) ?_
  refine nP ?_
  first | refine condD rfl (fun h0 => ?_) (fun h0 => ?_) | refine cond rfl (fun h0 => ?_) (fun h0 => ?_)
  · try simp only [Gx.nb] at h0
    refine skip (pN (seq (block (sg (co (fA 2 (.t rfl)) ?_)))))
    refine co (Ev.ldx c.rules ty24 (.t rfl) SConf.l_rules) ?_
    refine mv rfl (co (Ev.indexAddr Tryz.underlying24 ty93 (.t rfl) (.t rfl) (fun w I => (hc.keep0 I.keeps).us) (fun _ => by omega)) ?_)
    refine co (Ev.fieldAddrS (o := 0) (i := i) (.t rfl) (fun w I => (hc.keep0 I.keeps).us) (fun _ => by omega) (by kernel_rfl)) ?_
    refine co (Ev.loadS ty9 SRule.l_name rfl (.t rfl) (fun w I => (hc.keep0 I.keeps).us) (fun _ => by omega)) ?_
    refine mv rfl (co (Ev.eql_s (.t rfl) (.t rfl)) ?_)
    refine nP ?_
    first | refine condD rfl (fun h1 => ?_) (fun h1 => ?_) | refine cond rfl (fun h1 => ?_) (fun h1 => ?_)
    · refine sg (mv rfl (asn rfl (nP (ret (bR (pR (pR (bR (pR (done rfl (.tmp rfl .nil) (retE ?_)))))))))))
      rw [idx_at (p := fun x => decide (x.name = a)) eRule.zero (by omega) hq (by first | exact h1 | exact decide_eq_true h1)]; rfl
    · refine skip (bN (pN (region (mv rfl (co (Ev.add_i (.t rfl) (.c (v := I 1) rfl) (fun _ => by omega)) ?_)))))
      refine asn rfl (nP (nx (X := Int) (i + 1) ⟨?_, ?_⟩ ?_))
      · try dsimp only
        omega
      · try dsimp only
        intro k h
        by_cases e : (k : Int) < i
        · exact hq k e
        · obtain rfl : k = i.toNat := by omega
          first | exact h1 | exact decide_eq_false h1
      · try dsimp only
        omega
  · try simp only [Gx.nb] at h0
    refine exit (pX (pX (bX (pN (sg (co (Ev.assign (.c (v := I (-1)) rfl)) ?_))))))
    refine nP (ret (done rfl (.tmp rfl .nil) (retE ?_)))
    rw [idx_none (p := fun x => decide (x.name = a)) eRule.zero (fun k hk => hq k (by omega))]; rfl
theorem rroute_ix (c : SConf) (l : CL) (a : SPrefix) (w : World) (hc : ConfAt w c l) : Calls Tryz.prog 107 #[eConf.val c, ePrefix.val a] w (RetV w (I (idxF (fun x => SPrefix.eqb x.to_ a) l.rs))) := by
  have hle := hc.rs.le
  refine en0 22 Tryz.func107 ?_
  refine sg (cons (box (E := eConf) (.t rfl) (fun b1 => ?_)))
  refine cons (box (E := ePrefix) (.t rfl) (fun b2 => ?_))
  refine co (Ev.assign (.c (v := I 0) rfl)) ?_
  refine nP (seq (sg (co (Ev.assign (.c (v := I 0) rfl)) ?_)))
  refine nP (block (lp (X := Int) (fun x : Int => (0 ≤ x ∧ x ≤ l.rs.length) ∧ (∀ k : Nat, k < x → (fun x => SPrefix.eqb x.to_ a) (l.rs.getD k eRoute.zero) = false)) (fun x : Int => [dz, (3, true, .pointer (some ⟨b2, 0, none⟩)), (2, true, .pointer (some ⟨b1, 0, none⟩)), (5, true, I x)]) (fun x : Int => [Var b2 ePrefix a 89, Var b1 eConf c 28]) (fun x : Int => ((l.rs.length : Int) - x).toNat) (0) ⟨?_, ?_⟩ (fun x hx => ?_)))
  · omega
  · intro k h; omega
  obtain ⟨i, rfl⟩ : ∃ y, y = x := ⟨x, rfl⟩
  obtain ⟨hi, hq⟩ : (0 ≤ i ∧ i ≤ l.rs.length) ∧ (∀ k : Nat, k < i → (fun x => SPrefix.eqb x.to_ a) (l.rs.getD k eRoute.zero) = false) := hx
  show Sat _ _ [dz, (3, true, .pointer (some ⟨b2, 0, none⟩)), (2, true, .pointer (some ⟨b1, 0, none⟩)), (5, true, I i)] [Var b2 ePrefix a 89, Var b1 eConf c 28]
  refine seq (sg (mv rfl (co (fA 1 (.t rfl)) ?_)))
  refine co (Ev.ldx c.routes ty23 (.t rfl) SConf.l_routes) ?_
  refine co (Ev.len Tryz.underlying23 (.t rfl) (fun w I => (hc.keep0 I.keeps).rs)) ?_
  refine co (Ev.lss_i (.t rfl) (.t rfl)) ?_
  refine nP ?_
  first | refine condD rfl (fun h0 => ?_) (fun h0 => ?_) | refine cond rfl (fun h0 => ?_) (fun h0 => ?_)
  · try simp only [Gx.nb] at h0
    refine skip (pN (seq (block (seq (draw' (by kernel_rfl) ?_)))))
    refine tk 0 rfl (fA 1 (.t rfl)) ?_
    refine tk 1 rfl (Ev.ldx c.routes ty23 (.t rfl) SConf.l_routes) ?_
    refine tk 2 rfl (Ev.move (.t rfl)) ?_
    refine tk 3 rfl (Ev.indexAddr Tryz.underlying23 ty102 (.t rfl) (.t rfl) (fun w I => (hc.keep0 I.keeps).rs) (fun _ => by omega)) ?_
    refine tk 4 rfl (Ev.fieldAddrS (o := 0) (i := i) (.t rfl) (fun w I => (hc.keep0 I.keeps).rs) (fun _ => by omega) (by kernel_rfl)) ?_
    refine tk 5 rfl (Ev.loadS ty89 SRoute.l_to_ rfl (.t rfl) (fun w I => (hc.keep0 I.keeps).rs) (fun _ => by omega)) ?_
    refine tk 6 rfl (Ev.ldx a ty89 (.t rfl) (Lens.id _)) ?_
    refine tk 7 rfl (Ev.eqlS rfl eqok89 rfl (by kernel_rfl) (.t rfl) (.t rfl)) ?_
    refine ovr (pN ?_)
    first | refine condD rfl (fun h1 => ?_) (fun h1 => ?_) | refine cond rfl (fun h1 => ?_) (fun h1 => ?_)
    · refine sg (mv rfl (asn rfl (nP (ret (bR (pR (pR (bR (pR (done rfl (.tmp rfl .nil) (retE ?_)))))))))))
      rw [idx_at (p := fun x => SPrefix.eqb x.to_ a) eRoute.zero (by omega) hq (by first | exact h1 | exact decide_eq_true h1)]; rfl
    · refine skip (bN (pN (region (mv rfl (co (Ev.add_i (.t rfl) (.c (v := I 1) rfl) (fun _ => by omega)) ?_)))))
      refine asn rfl (nP (nx (X := Int) (i + 1) ⟨?_, ?_⟩ ?_))
      · try dsimp only
        omega
      · try dsimp only
        intro k h
        by_cases e : (k : Int) < i
        · exact hq k e
        · obtain rfl : k = i.toNat := by omega
          first | exact h1 | exact decide_eq_false h1
      · try dsimp only
        omega
  · try simp only [Gx.nb] at h0
    refine exit (pX (pX (bX (pN (sg (co (Ev.assign (.c (v := I (-1)) rfl)) ?_))))))
    refine nP (ret (done rfl (.tmp rfl .nil) (retE ?_)))
    rw [idx_none (p := fun x => SPrefix.eqb x.to_ a) eRoute.zero (fun k hk => hq k (by omega))]; rfl
end Go.Proofs.YtmdkmclgfgaahaaGreat
namespace Go.Proofs.YtmdkmclgfgaahaaGreat
open Go Go.Gx Go.Proofs.YtmdkmclgfgaahaaGreat.Tri
theorem str_get {s : ByteArray} {i : Nat} (h : i < s.size) : s[i]? = some (s.get! i) := by
  have h2 : s.get! i = s[i] := by
    cases s with
    | mk bs =>
      show bs[i]! = bs[i]
      exact getElem!_pos bs i h
  rw [h2]
  exact getElem?_pos s i h
def nameU (c : UInt8) (i : Int) : Bool := (decide (97 ≤ c) && decide (c ≤ 122)) || (!decide (i = 0) && (((decide (48 ≤ c) && decide (c ≤ 57)) || decide (c = 45)) || decide (c = 95)))
theorem nameU_eq (c : UInt8) {i : Int} (h : 0 ≤ i) : nameU c i = nameC c.toNat i := by
  have key : ∀ n : Fin 256, (decide (97 ≤ UInt8.ofNat n.val) = decide (97 ≤ (n.val : Int))) ∧ (decide (UInt8.ofNat n.val ≤ 122) = decide ((n.val : Int) ≤ 122)) ∧ (decide (48 ≤ UInt8.ofNat n.val) = decide (48 ≤ (n.val : Int))) ∧ (decide (UInt8.ofNat n.val ≤ 57) = decide ((n.val : Int) ≤ 57)) ∧ (decide (UInt8.ofNat n.val = 45) = decide ((n.val : Int) = 45)) ∧ (decide (UInt8.ofNat n.val = 95) = decide ((n.val : Int) = 95)) := by decide +kernel
  obtain ⟨k1, k2, k3, k4, k5, k6⟩ := key ⟨c.toNat, c.toNat_lt⟩
  simp only [UInt8.ofNat_toNat] at k1 k2 k3 k4 k5 k6
  unfold nameU nameC
  rw [k1, k2, k3, k4, k5, k6]
  have e : (!decide (i = 0)) = decide (0 < i) := by
    by_cases h0 : i = 0
    · simp [h0]
    · have : 0 < i := by omega
      simp [h0, this]
  rw [e]
theorem name_key : ∀ A B C : Bool, (!A && (B || !C)) = !(A || (!B && C)) := by decide
theorem nameB_no {s : ByteArray} {i : Nat} (h : i < s.size) (hb : nameC (s.get! i).toNat i = false) : nameB s = false := by
  unfold nameB
  have : (List.range s.size).all (fun k => nameC (s.get! k).toNat k) = false := List.all_eq_false.2 ⟨i, List.mem_range.2 h, by simp [hb]⟩
  rw [this, Bool.and_false]
theorem nameB_yes {s : ByteArray} (h0 : 1 ≤ s.size ∧ s.size ≤ 16) (hq : ∀ k, k < s.size → nameC (s.get! k).toNat k = true) : nameB s = true := by
  have h : (decide (s.size = 0) || decide (16 < s.size)) = false := by rw [Bool.or_eq_false_iff, decide_eq_false_iff_not, decide_eq_false_iff_not]; omega
  unfold nameB
  rw [h]
  exact List.all_eq_true.2 fun k hk => hq k (List.mem_range.1 hk)
theorem nameB_len {s : ByteArray} (h : s.size < 1 ∨ 16 < s.size) : nameB s = false := by
  have h : (decide (s.size = 0) || decide (16 < s.size)) = true := by rw [Bool.or_eq_true, decide_eq_true_eq, decide_eq_true_eq]; omega
  unfold nameB
  rw [h]
  rfl
theorem u8_mod2 (y : UInt8) : y % 2 = y &&& 1 := by
  apply UInt8.toNat_inj.1
  rw [UInt8.toNat_and, UInt8.toNat_mod]
  have e : UInt8.toNat 1 = 1 := rfl
  have e2 : UInt8.toNat 2 = 2 := rfl
  rw [e, e2, Nat.and_one_is_mod]
theorem checkA_bytes (a : SAddr) : checkA a = 0 ↔ ∀ k : Nat, wd a / 8 ≤ k → k < 16 → a.b.toList.getD k 0 = 0 := by
  have hw : wd a = 32 ∨ wd a = 128 := by unfold wd; cases a.v6 <;> simp
  rw [checkA_zero]
  constructor
  · intro h k h1 h2
    have hm := (mk1_iff (a.b.toList.getD k 0) 0).2 (fun j hj _ => by
      rw [← bitU_at _ _ _ hj]
      exact h _ (by omega) (by omega))
    rw [← hm]
    rfl
  · intro h i h1 h2
    have e : i = 8 * ((i / 8).toNat : Int) + ((i % 8).toNat : Int) := by omega
    rw [e, bitU_at _ _ _ (by omega), h _ (by omega) (by omega)]
    have : ∀ j : Fin 8, bitOf 0 j.val = 0 := by decide
    exact this ⟨(i % 8).toNat, by omega⟩
def rooms : List Int := [2, 4, 8, 16, 32, 64, 128, 256, 512, 1024]
theorem roomB_iff (n : Int) : roomB n = true ↔ n ∈ rooms := by
  have key : ∀ m : Fin 1025, decide (2 ≤ m.val ∧ m.val ≤ 1024 ∧ m.val &&& (m.val - 1) = 0) = decide ((m.val : Int) ∈ rooms) := by decide +kernel
  unfold roomB
  rw [decide_eq_true_iff]
  by_cases h : 0 ≤ n ∧ n ≤ 1024
  · have h2 := key ⟨n.toNat, by omega⟩
    have e : ((n.toNat : Nat) : Int) = n := by omega
    simp only [e] at h2
    rw [Bool.eq_iff_iff, decide_eq_true_iff, decide_eq_true_iff] at h2
    rw [← h2]
    constructor
    · rintro ⟨h3, h4, h5⟩
      exact ⟨by omega, by omega, h5⟩
    · rintro ⟨h3, h4, h5⟩
      exact ⟨by omega, by omega, h5⟩
  · constructor
    · rintro ⟨h3, h4, h5⟩
      omega
    · intro h3
      have : ∀ x ∈ rooms, 0 ≤ x ∧ x ≤ 1024 := by decide
      have := this n h3
      omega
theorem rname_ok (s : ByteArray) (w : World) (hs : s.size ≤ 9223372036854775807) : Calls Tryz.prog 108 #[.string s] w (RetV w (.bool (nameB s))) := by
  refine en0 54 Tryz.func108 ?_
  refine sg (co (Ev.assign (.c (v := .bool false) rfl)) ?_)
  refine nP (seq (sg (mv rfl (co (Ev.lenS Tryz.underlying9 (.t rfl)) ?_))))
  refine co (Ev.lss_i (.t rfl) (.c (v := I 1) rfl)) ?_
  refine mv rfl (cg rfl rfl (Ev.move (.t rfl)) ?_)
  refine cg rfl rfl (Ev.lenS Tryz.underlying9 (.g rfl id)) ?_
  refine cg rfl rfl (Ev.gtr_i (.g rfl id) (.c (v := I 16) rfl)) ?_
  refine co (Ev.pkO (.t rfl) rfl) ?_
  refine nP ?_
  first | refine condD rfl (fun h0 => ?_) (fun h0 => ?_) | refine cond rfl (fun h0 => ?_) (fun h0 => ?_)
  · try simp only [Gx.nb] at h0
    refine sg (co (Ev.assign (.c (v := .bool false) rfl)) ?_)
    refine nP (ret (pR (done rfl (.tmp rfl .nil) (retE ?_))))
    rw [nameB_len (by omega)]; rfl
  · try simp only [Gx.nb] at h0
    refine skip (pN (seq (sg (co (Ev.assign (.c (v := I 0) rfl)) ?_))))
    refine nP (block (lp (X := Int) (fun x : Int => (0 ≤ x ∧ x ≤ s.size) ∧ (∀ k : Nat, k < x → nameC (s.get! k).toNat k = true)) (fun x : Int => [dz, (0, true, .string s), (3, true, I x)]) (fun x : Int => []) (fun x : Int => ((s.size : Int) - x).toNat) (0) ⟨?_, ?_⟩ (fun x hx => ?_)))
    · omega
    · intro k h; omega
    obtain ⟨i, rfl⟩ : ∃ y, y = x := ⟨x, rfl⟩
    obtain ⟨hi, hq⟩ : (0 ≤ i ∧ i ≤ s.size) ∧ (∀ k : Nat, k < i → nameC (s.get! k).toNat k = true) := hx
    show Sat _ _ [dz, (0, true, .string s), (3, true, I i)] []
    refine seq (sg (mv rfl (mv rfl (co (Ev.lenS Tryz.underlying9 (.t rfl)) ?_))))
    refine co (Ev.lss_i (.t rfl) (.t rfl)) ?_
    refine nP ?_
    first | refine condD rfl (fun h1 => ?_) (fun h1 => ?_) | refine cond rfl (fun h1 => ?_) (fun h1 => ?_)
    · try simp only [Gx.nb] at h1
      refine skip (pN (seq (block (sg (mv rfl (mv rfl (co (Ev.indexS (b := s.get! i.toNat) (s := s) Tryz.underlying9 (.t rfl) (.t rfl) (fun _ => ⟨by omega, str_get (by omega)⟩)) ?_)))))))
      refine asn rfl (nP (sg (mv rfl (co (Ev.geq_u8 (.t rfl) (.c (v := U8 97) rfl)) ?_))))
      refine mv rfl (cg rfl rfl (Ev.move (.t rfl)) ?_)
      refine cg rfl rfl (Ev.leq_u8 (.g rfl id) (.c (v := U8 122) rfl)) ?_
      refine co (Ev.pkA (.t rfl) rfl) ?_
      refine asn rfl (nP (sg (mv rfl (co (Ev.geq_u8 (.t rfl) (.c (v := U8 48) rfl)) ?_))))
      refine mv rfl (cg rfl rfl (Ev.move (.t rfl)) ?_)
      refine cg rfl rfl (Ev.leq_u8 (.g rfl id) (.c (v := U8 57) rfl)) ?_
      refine co (Ev.pkA (.t rfl) rfl) ?_
      refine mv rfl (cg rfl rfl (Ev.move (.t rfl)) ?_)
      refine cg rfl rfl (Ev.eql_u8 (.g rfl id) (.c (v := U8 45) rfl)) ?_
      refine co (Ev.pkO (.t rfl) rfl) ?_
      refine mv rfl (cg rfl rfl (Ev.move (.t rfl)) ?_)
      refine cg rfl rfl (Ev.eql_u8 (.g rfl id) (.c (v := U8 95) rfl)) ?_
      refine co (Ev.pkO (.t rfl) rfl) ?_
      refine asn rfl (nP (sg (mv rfl (co (Ev.not (.t rfl)) ?_))))
      refine mv rfl (cg rfl rfl (Ev.move (.t rfl)) ?_)
      refine cg rfl rfl (Ev.eql_i (.g rfl id) (.c (v := I 0) rfl)) ?_
      refine cg rfl rfl (Ev.move (.g rfl id)) ?_
      refine cg rfl rfl (Ev.move (.t rfl)) ?_
      refine cg rfl rfl (Ev.not (.g rfl id)) ?_
      refine cg rfl rfl (Ev.pkO (.g rfl id) rfl) ?_
      refine co (Ev.pkA (.t rfl) rfl) ?_
      refine nP ?_
      first | refine condD rfl (fun h2 => ?_) (fun h2 => ?_) | refine cond rfl (fun h2 => ?_) (fun h2 => ?_)
      · have h2b := (name_key _ _ _).symm.trans h2
        rw [Bool.not_eq_true'] at h2b
        have hu : nameU (s.get! i.toNat) i = false := h2b
        rw [nameU_eq _ (by omega)] at hu
        have ei : ((i.toNat : Nat) : Int) = i := by omega
        rw [← ei] at hu
        simp only [ei, Int.toNat_natCast] at hu
        refine sg (co (Ev.assign (.c (v := .bool false) rfl)) ?_)
        refine nP (ret (bR (pR (pR (bR (pR (done rfl (.tmp rfl .nil) (retE ?_))))))))
        have e : nameB s = false := nameB_no (i := i.toNat) (by omega) (by rw [ei]; exact hu)
        rw [e]; rfl
      · have hcu : nameC (s.get! i.toNat).toNat (i.toNat : Nat) = true := by
          have h2b := (name_key _ _ _).symm.trans h2
          rw [Bool.not_eq_false'] at h2b
          have hu : nameU (s.get! i.toNat) i = true := h2b
          rw [nameU_eq _ (by omega)] at hu
          have ei : ((i.toNat : Nat) : Int) = i := by omega
          rw [ei]; exact hu
        refine skip (bN (pN (region (mv rfl (co (Ev.add_i (.t rfl) (.c (v := I 1) rfl) (fun _ => by omega)) ?_)))))
        refine asn rfl (nP (nx (X := Int) (i + 1) ⟨?_, ?_⟩ ?_))
        · try dsimp only
          omega
        · try dsimp only
          intro k h
          by_cases e : (k : Int) < i
          · exact hq k e
          · obtain rfl : k = i.toNat := by omega
            exact hcu
        · try dsimp only
          omega
    · try simp only [Gx.nb] at h1
      refine exit (pX (pX (bX (pN (sg (co (Ev.assign (.c (v := .bool true) rfl)) ?_))))))
      refine nP (ret (done rfl (.tmp rfl .nil) (retE ?_)))
      have e : nameB s = true := nameB_yes (by omega) (fun k hk => hq k (by omega))
      rw [e]; rfl
theorem r15width_ok (a : SAddr) (w : World) : Calls Tryz.prog 131 #[eAddr.val a] w (RetV w (I (wd a))) := by
  refine en0 5 Tryz.func131 ?_
  refine sg (cons (box (E := eAddr) (.t rfl) (fun b1 => ?_)))
  refine co (Ev.assign (.c (v := I 0) rfl)) ?_
  refine nP (seq (sg (co (fA 0 (.t rfl)) ?_)))
  refine co (Ev.ldx a.v6 ty4 (.t rfl) SAddr.l_v6) ?_
  refine nP ?_
  first | refine condD rfl (fun h0 => ?_) (fun h0 => ?_) | refine cond rfl (fun h0 => ?_) (fun h0 => ?_)
  · try simp only [Gx.nb] at h0
    refine sg (co (Ev.assign (.c (v := I 128) rfl)) ?_)
    refine nP (ret (pR (done rfl (.tmp rfl .nil) (retE ?_))))
    simp [wd, h0, tupV]
  · try simp only [Gx.nb] at h0
    refine skip (pN (sg (co (Ev.assign (.c (v := I 32) rfl)) ?_)))
    refine nP (ret (done rfl (.tmp rfl .nil) (retE ?_)))
    simp [wd, h0, tupV]
theorem r15bit_ok (a : SAddr) (i : Int) (w : World) (h : 0 ≤ i ∧ i < 128) : Calls Tryz.prog 132 #[eAddr.val a, I i] w (RetV w (.bool (decide (bitU a.b.toList i = 1)))) := by
  refine en0 16 Tryz.func132 ?_
  refine sg (cons (box (E := eAddr) (.t rfl) (fun b1 => ?_)))
  refine co (Ev.assign (.c (v := .bool false) rfl)) ?_
  refine nP (sg (mv rfl (co (Ev.quo_n (.t rfl) (.c (v := I 8) rfl) (fun _ => by omega) (fun _ => by omega) (fun _ => by omega)) ?_)))
  refine co (fA 1 (.t rfl)) ?_
  refine co (Ev.indexAddrA Tryz.underlying36 ty5 (.t rfl) (.t rfl) (fun _ => by omega)) ?_
  refine co (Ev.ldv ty5 (.t rfl) (Lens.comp SAddr.l_b (lArr (n := 16) u8E _ (by omega)))) ?_
  refine mv rfl (co (Ev.rem_n (.t rfl) (.c (v := I 8) rfl) (fun _ => by omega) (fun _ => by omega)) ?_)
  refine co (Ev.sub_i (.c (v := I 7) rfl) (.t rfl) (fun _ => by omega)) ?_
  refine co (Ev.shr_u8 (.t rfl) (.t rfl) (fun _ => by omega)) ?_
  refine co (Ev.rem_u8 (.t rfl) (.c (v := U8 2) rfl) (fun _ => by decide)) ?_
  refine co (Ev.eql_u8 (.t rfl) (.c (v := U8 1) rfl)) ?_
  refine asn rfl (nP (ret (done rfl (.tmp rfl .nil) (retE ?_))))
  unfold bitU
  rw [vec_getD a.b _ (by omega), ← u8_mod2]
  rfl
theorem en131 : Gx.Enters Tryz.prog 131 := Gx.Enters.mk' (by kernel_rfl)
theorem r15checkA_ok (a : SAddr) (w : World) : Calls Tryz.prog 130 #[eAddr.val a] w (RetV w (I (checkA a))) := by
  have hw := wd_le a
  refine en0 16 Tryz.func130 ?_
  refine sg (cons (box (E := eAddr) (.t rfl) (fun b1 => ?_)))
  refine co (Ev.assign (.c (v := I 0) rfl)) ?_
  refine nP (seq (sg (co (Ev.ldx a ty38 (.t rfl) (Lens.id _)) ?_)))
  refine cons (callv en131 (.cons (.t rfl) .nil) (fun w I => r15width_ok _ w) ?_)
  refine co (Ev.to (v' := I (wd a / 8)) (Ev.quo_n (.t rfl) (.c (v := I 8) rfl) (fun _ => by omega) (fun _ => by omega) (fun _ => by omega)) (rfl)) ?_
  refine asn rfl (nP (block (lp (X := Int) (fun x : Int => (wd a / 8 ≤ x ∧ x ≤ 16) ∧ (∀ k : Nat, wd a / 8 ≤ k → k < x → a.b.toList.getD k 0 = 0)) (fun x : Int => [dz, (1, true, .pointer (some ⟨b1, 0, none⟩)), (3, true, I x)]) (fun x : Int => [Var b1 eAddr a 38]) (fun x : Int => (16 - x).toNat) (wd a / 8) ⟨?_, ?_⟩ (fun x hx => ?_))))
  · omega
  · intro k h1 h2; omega
  obtain ⟨i, rfl⟩ : ∃ y, y = x := ⟨x, rfl⟩
  obtain ⟨hi, hz⟩ : (wd a / 8 ≤ i ∧ i ≤ 16) ∧ (∀ k : Nat, wd a / 8 ≤ k → k < i → a.b.toList.getD k 0 = 0) := hx
  show Sat _ _ [dz, (1, true, .pointer (some ⟨b1, 0, none⟩)), (3, true, I i)] [Var b1 eAddr a 38]
  refine seq (sg (mv rfl (co (Ev.lss_i (.t rfl) (.c (v := I 16) rfl)) ?_)))
  refine nP ?_
  first | refine condD rfl (fun h0 => ?_) (fun h0 => ?_) | refine cond rfl (fun h0 => ?_) (fun h0 => ?_)
  · try simp only [Gx.nb] at h0
    refine skip (pN (seq (block (sg (mv rfl (co (fA 1 (.t rfl)) ?_))))))
    refine co (Ev.indexAddrA Tryz.underlying36 ty5 (.t rfl) (.t rfl) (fun _ => by omega)) ?_
    refine co (Ev.ldv ty5 (.t rfl) (Lens.comp SAddr.l_b (lArr (n := 16) u8E _ (by omega)))) ?_
    refine co (Ev.neq_u8 (.t rfl) (.c (v := U8 0) rfl)) ?_
    refine nP ?_
    first | refine condD rfl (fun h1 => ?_) (fun h1 => ?_) | refine cond rfl (fun h1 => ?_) (fun h1 => ?_)
    · try simp only [Gx.nb] at h1
      refine sg (co (Ev.assign (.c (v := I 150) rfl)) ?_)
      refine nP (ret (bR (pR (pR (bR (pR (done rfl (.tmp rfl .nil) (retE ?_))))))))
      have hne : ¬ checkA a = 0 := fun h => by
        have := (checkA_bytes a).1 h i.toNat (by omega) (by omega)
        rw [vec_getD a.b _ (by omega)] at this
        exact h1 this
      have e : checkA a = 150 := by unfold checkA at hne ⊢; split at hne <;> simp_all
      rw [e]; rfl
    · try simp only [Gx.nb] at h1
      refine skip (bN (pN (region (mv rfl (co (Ev.add_i (.t rfl) (.c (v := I 1) rfl) (fun _ => by omega)) ?_)))))
      refine asn rfl (nP (nx (X := Int) (i + 1) ⟨?_, ?_⟩ ?_))
      · try dsimp only
        omega
      · try dsimp only
        intro k h1a h2a
        by_cases e : (k : Int) < i
        · exact hz k h1a e
        · obtain rfl : k = i.toNat := by omega
          rw [vec_getD a.b _ (by omega)]
          simpa using h1
      · try dsimp only
        omega
  · try simp only [Gx.nb] at h0
    refine exit (pX (pX (bX (pN (sg (co (Ev.assign (.c (v := I 0) rfl)) ?_))))))
    refine nP (ret (done rfl (.tmp rfl .nil) (retE ?_)))
    have e : checkA a = 0 := (checkA_bytes a).2 (fun k hk1 hk2 => hz k hk1 (by omega))
    rw [e]; rfl
theorem checkP_15 (p : SPrefix) : checkP p = 0 ↔ checkA p.addr = 0 ∧ 0 ≤ p.bits ∧ p.bits ≤ wd p.addr ∧ ∀ i : Int, p.bits ≤ i → i < wd p.addr → ¬ bitU p.addr.b.toList i = 1 := by
  have hw := wd_le p.addr
  have h01 : ∀ i, bitU p.addr.b.toList i = 0 ∨ bitU p.addr.b.toList i = 1 := fun i => by
    have : ∀ x : UInt8, x &&& 1 = 0 ∨ x &&& 1 = 1 := fun x => by
      have h : (x &&& 1).toNat = x.toNat % 2 := by
        rw [UInt8.toNat_and]
        exact Nat.and_one_is_mod _
      rcases Nat.mod_two_eq_zero_or_one x.toNat with h2 | h2
      · exact .inl (UInt8.toNat_inj.1 (by rw [h, h2]; rfl))
      · exact .inr (UInt8.toNat_inj.1 (by rw [h, h2]; rfl))
    exact this _
  rw [checkP_zero, checkA_zero]
  constructor
  · rintro ⟨h1, h2, h3⟩
    refine ⟨fun i hi hj => h3 i (by omega) hj, h1, h2, fun i hi hj e => ?_⟩
    rw [h3 i hi (by omega)] at e
    exact absurd e (by decide)
  · rintro ⟨h1, h2, h3, h4⟩
    refine ⟨h2, h3, fun i hi hj => ?_⟩
    by_cases hlt : i < wd p.addr
    · exact (h01 i).resolve_right (h4 i hi hlt)
    · exact h1 i (by omega) hj
theorem checkP_or (p : SPrefix) : checkP p = 0 ∨ checkP p = 151 := by
  unfold checkP
  split <;> simp
theorem en130 : Gx.Enters Tryz.prog 130 := Gx.Enters.mk' (by kernel_rfl)
theorem en132 : Gx.Enters Tryz.prog 132 := Gx.Enters.mk' (by kernel_rfl)
theorem r15check_ok (p : SPrefix) (w : World) : Calls Tryz.prog 105 #[ePrefix.val p] w (RetV w (I (checkP p))) := by
  have hw := wd_le p.addr
  refine en0 34 Tryz.func105 ?_
  refine sg (cons (box (E := ePrefix) (.t rfl) (fun b1 => ?_)))
  refine co (Ev.assign (.c (v := I 0) rfl)) ?_
  refine nP (seq (seq (draw' (by kernel_rfl) ?_)))
  refine tk 0 rfl (fA 0 (.t rfl)) ?_
  refine tk 1 rfl (Ev.ldx p.addr ty38 (.t rfl) SPrefix.l_addr) ?_
  refine al1 2 rfl ((callv en130 (.cons (.t rfl) .nil) (fun w I => r15checkA_ok _ w) ?_))
  refine hdn (tk 3 rfl (Ev.neq_i (.t rfl) (.c (v := I 0) rfl)) ?_)
  refine tk 4 rfl (Ev.move (.t rfl)) ?_
  refine tkg 5 rfl rfl rfl (fA 17 (.t rfl)) ?_
  refine tkg 6 rfl rfl rfl (Ev.ldx p.bits ty3 (.g rfl id) SPrefix.l_bits) ?_
  refine tkg 7 rfl rfl rfl (Ev.lss_i (.g rfl id) (.c (v := I 0) rfl)) ?_
  refine tk 8 rfl (Ev.pkO (.t rfl) rfl) ?_
  refine tk 9 rfl (Ev.move (.t rfl)) ?_
  refine tkg 10 rfl rfl rfl (fA 17 (.t rfl)) ?_
  refine tkg 11 rfl rfl rfl (Ev.ldx p.bits ty3 (.g rfl id) SPrefix.l_bits) ?_
  refine tkg 12 rfl rfl rfl (fA 0 (.t rfl)) ?_
  refine tkg 13 rfl rfl rfl (Ev.ldx p.addr ty38 (.g rfl id) SPrefix.l_addr) ?_
  refine al1 14 rfl ((callg rfl rfl en131 (.cons (.g rfl id) .nil) (fun hg w I => r15width_ok _ w) ?_))
  refine hdn (tkg 15 rfl rfl rfl (Ev.gtr_i (.g rfl id) (.g rfl id)) ?_)
  refine tk 16 rfl (Ev.pkO (.t rfl) rfl) ?_
  refine ovr (pN ?_)
  first | refine condD rfl (fun h0 => ?_) (fun h0 => ?_) | refine cond rfl (fun h0 => ?_) (fun h0 => ?_)
  · refine sg (co (Ev.assign (.c (v := I 151) rfl)) ?_)
    refine nP (ret (pR (done rfl (.tmp rfl .nil) (retE ?_))))
    have e : checkP p = 151 := (checkP_or p).resolve_left (fun h => by
      have := (checkP_15 p).1 h
      simp [this.1] at h0
      omega)
    rw [e]; rfl
  · have hr : checkA p.addr = 0 ∧ 0 ≤ p.bits ∧ p.bits ≤ wd p.addr := by simpa [and_assoc] using h0
    refine skip (pN (seq (sg (co (fA 17 (.t rfl)) ?_))))
    refine co (Ev.ldx p.bits ty3 (.t rfl) SPrefix.l_bits) ?_
    refine asn rfl (nP (block (lp (X := Int) (fun x : Int => (p.bits ≤ x ∧ x ≤ wd p.addr) ∧ (∀ j : Int, p.bits ≤ j → j < x → ¬ bitU p.addr.b.toList j = 1)) (fun x : Int => [dz, (1, true, .pointer (some ⟨b1, 0, none⟩)), (3, true, I x)]) (fun x : Int => [Var b1 ePrefix p 89]) (fun x : Int => (wd p.addr - x).toNat) (p.bits) ⟨?_, ?_⟩ (fun x hx => ?_))))
    · omega
    · intro j h1 h2; omega
    obtain ⟨i, rfl⟩ : ∃ y, y = x := ⟨x, rfl⟩
    obtain ⟨hi, hz⟩ : (p.bits ≤ i ∧ i ≤ wd p.addr) ∧ (∀ j : Int, p.bits ≤ j → j < i → ¬ bitU p.addr.b.toList j = 1) := hx
    show Sat _ _ [dz, (1, true, .pointer (some ⟨b1, 0, none⟩)), (3, true, I i)] [Var b1 ePrefix p 89]
    refine seq (sg (mv rfl (co (fA 0 (.t rfl)) ?_)))
    refine co (Ev.ldx p.addr ty38 (.t rfl) SPrefix.l_addr) ?_
    refine cons (callv en131 (.cons (.t rfl) .nil) (fun w I => r15width_ok _ w) ?_)
    refine co (Ev.lss_i (.t rfl) (.t rfl)) ?_
    refine nP ?_
    first | refine condD rfl (fun h1 => ?_) (fun h1 => ?_) | refine cond rfl (fun h1 => ?_) (fun h1 => ?_)
    · try simp only [Gx.nb] at h1
      refine skip (pN (seq (block (sg (co (fA 0 (.t rfl)) ?_)))))
      refine co (Ev.ldx p.addr ty38 (.t rfl) SPrefix.l_addr) ?_
      refine mv rfl (cons (callv en132 (.cons (.t rfl) (.cons (.t rfl) .nil)) (fun w I => r15bit_ok _ _ w (by first | omega | (simp; omega))) ?_))
      refine nP ?_
      first | refine condD rfl (fun h2 => ?_) (fun h2 => ?_) | refine cond rfl (fun h2 => ?_) (fun h2 => ?_)
      · refine sg (co (Ev.assign (.c (v := I 151) rfl)) ?_)
        refine nP (ret (bR (pR (pR (bR (pR (done rfl (.tmp rfl .nil) (retE ?_))))))))
        have e : checkP p = 151 := (checkP_or p).resolve_left (fun h => ((checkP_15 p).1 h).2.2.2 i (by omega) (by omega) (by simpa using h2))
        rw [e]; rfl
      · refine skip (bN (pN (region (mv rfl (co (Ev.add_i (.t rfl) (.c (v := I 1) rfl) (fun _ => by omega)) ?_)))))
        refine asn rfl (nP (nx (X := Int) (i + 1) ⟨?_, ?_⟩ ?_))
        · try dsimp only
          omega
        · try dsimp only
          intro j h1 h2a
          by_cases e : j = i
          · rw [e]; simpa using h2
          · exact hz j h1 (by omega)
        · try dsimp only
          omega
    · try simp only [Gx.nb] at h1
      refine exit (pX (pX (bX (pN (sg (co (Ev.assign (.c (v := I 0) rfl)) ?_))))))
      refine nP (ret (done rfl (.tmp rfl .nil) (retE ?_)))
      have e : checkP p = 0 := (checkP_15 p).2 ⟨hr.1, hr.2.1, hr.2.2, fun j h1 h2 => hz j h1 (by omega)⟩
      rw [e]; rfl
theorem rroom_ok (n : Int) (w : World) : Calls Tryz.prog 113 #[I n] w (RetV w (.bool (roomB n))) := by
  refine en0 11 Tryz.func113 ?_
  refine sg (co (Ev.assign (.c (v := .bool false) rfl)) ?_)
  refine nP (seq (sg (co (Ev.assign (.c (v := I 2) rfl)) ?_)))
  refine nP (block (lp (X := Int) (fun x : Int => (x ∈ (2048 :: rooms)) ∧ (∀ m ∈ rooms, m < x → ¬ m = n)) (fun x : Int => [dz, (0, true, I n), (3, true, I x)]) (fun x : Int => []) (fun x : Int => (2048 - x).toNat) (2) ⟨?_, ?_⟩ (fun x hx => ?_)))
  · decide
  · have h : ∀ m ∈ rooms, ¬ m < 2 := by decide
    exact fun m hm hl => absurd hl (h m hm)
  obtain ⟨k, rfl⟩ : ∃ y, y = x := ⟨x, rfl⟩
  obtain ⟨hk, hq⟩ : (k ∈ (2048 :: rooms)) ∧ (∀ m ∈ rooms, m < k → ¬ m = n) := hx
  show Sat _ _ [dz, (0, true, I n), (3, true, I k)] []
  refine seq (sg (mv rfl (co (Ev.leq_i (.t rfl) (.c (v := I 1024) rfl)) ?_)))
  refine nP ?_
  first | refine condD rfl (fun h0 => ?_) (fun h0 => ?_) | refine cond rfl (fun h0 => ?_) (fun h0 => ?_)
  · try simp only [Gx.nb] at h0
    have hkr : k ∈ rooms := by
      rcases List.mem_cons.1 hk with h | h
      · omega
      · exact h
    have hkb : 2 ≤ k ∧ k ≤ 1024 := by
      have : ∀ k ∈ rooms, 2 ≤ k ∧ k ≤ 1024 := by decide
      exact this k hkr
    refine skip (pN (seq (block (sg (mv rfl (mv rfl (co (Ev.eql_i (.t rfl) (.t rfl)) ?_)))))))
    refine nP ?_
    first | refine condD rfl (fun h1 => ?_) (fun h1 => ?_) | refine cond rfl (fun h1 => ?_) (fun h1 => ?_)
    · try simp only [Gx.nb] at h1
      refine sg (co (Ev.assign (.c (v := .bool true) rfl)) ?_)
      refine nP (ret (bR (pR (pR (bR (pR (done rfl (.tmp rfl .nil) (retE ?_))))))))
      have e : roomB n = true := (roomB_iff n).2 (h1 ▸ hkr)
      rw [e]; rfl
    · try simp only [Gx.nb] at h1
      refine skip (bN (pN (region (mv rfl (co (Ev.mul_i (.c (v := I 2) rfl) (.t rfl) (fun _ => by omega)) ?_)))))
      refine asn rfl (nP (nx (X := Int) (2 * k) ⟨?_, ?_⟩ ?_))
      · try dsimp only
        have hs : ∀ k ∈ rooms, 2 * k ∈ (2048 :: rooms) := by decide
        exact hs k hkr
      · try dsimp only
        have hs : ∀ k ∈ rooms, ∀ m ∈ rooms, m < 2 * k → m < k ∨ m = k := by decide
        intro m hm hlt
        rcases hs k hkr m hm hlt with h | h
        · exact hq m hm h
        · rw [h]; exact h1
      · try dsimp only
        have := hkb; omega
  · try simp only [Gx.nb] at h0
    have hkt : k = 2048 := by
      rcases List.mem_cons.1 hk with h | h
      · exact h
      · have : ∀ k ∈ rooms, k ≤ 1024 := by decide
        have := this k h
        omega
    refine exit (pX (pX (bX (pN (sg (co (Ev.assign (.c (v := .bool false) rfl)) ?_))))))
    refine nP (ret (done rfl (.tmp rfl .nil) (retE ?_)))
    have e : roomB n = false := by
      rw [Bool.eq_false_iff]
      intro h
      have hm := (roomB_iff n).1 h
      have : ∀ m ∈ rooms, m < 2048 := by decide
      exact hq n hm (by rw [hkt]; exact this n hm) rfl
    rw [e]; rfl
end Go.Proofs.YtmdkmclgfgaahaaGreat
