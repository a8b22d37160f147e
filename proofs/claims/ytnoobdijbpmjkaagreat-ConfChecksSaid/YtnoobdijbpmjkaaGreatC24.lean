/- conf -/
import Derived.Test.YtnoobdijbpmjkaaGreatC23
set_option linter.unusedVariables false
set_option linter.unusedSimpArgs false
namespace Go.Proofs.YtnoobdijbpmjkaaGreat
open Go Go.Gx

def s1 (n : UInt8) : ByteArray := ⟨#[n]⟩
def bkt1 : SBucket := ⟨1, 1, 1⟩
/-- The small configuration. -/
def smallL : CL := ⟨[1, 2], [⟨⟨⟨false, (Vector.replicate 16 0).set 0 10⟩, 8⟩, 2⟩],
  [{ eRule.zero with name := s1 97, action := 2, meter := s1 109 }, { eRule.zero with name := s1 98, match_ := { eMatch.zero with asks := 8, proto := 17 }, action := 3, out := 2 }],
  [⟨s1 109, bkt1⟩, ⟨s1 110, bkt1⟩], []⟩
/-- Port 3 more. -/
def smallD : CL := { smallL with ps := [1, 2, 3] }
def CHW : List SChange := [chPort 1 3, chDefault 2]
theorem w_diff (rv : OV) : diffL smallL smallD 1 2 rv = CHW := by kernel_rfl
theorem w_diffE : diffE smallL smallD 1 2 = 0 := by decide +kernel
theorem w_diffR : diffR smallL smallD 1 2 = [] := by kernel_rfl
theorem w_apply : applyC ⟨smallL, 1⟩ CHW [[], []] = (0, ⟨smallD, 2⟩) := by kernel_rfl
theorem w_check : checkF smallL 0 = [⟨2, 7⟩] := by kernel_rfl
theorem w_may : mayB smallD 2 = true := by decide +kernel
theorem w_same : sameB smallD smallD 2 2 = true := by decide +kernel
theorem w_other : sameB smallD smallL 2 1 = false := by decide +kernel
theorem names_of {l : CL} (h : l.us.all (fun x => decide (x.name.size ≤ 16)) && l.ms.all (fun x => decide (x.name.size ≤ 16)) && l.xs.all (fun x => decide (x.name.size ≤ 16)) = true) : l.Names := by
  simp only [Bool.and_eq_true, List.all_eq_true, decide_eq_true_iff] at h
  exact ⟨fun x hx => by have := h.1.1 x hx; omega, fun x hx => by have := h.1.2 x hx; omega, fun x hx => by have := h.2 x hx; omega⟩
theorem smallL_names : smallL.Names := names_of (by decide +kernel)
theorem smallD_names : smallD.Names := names_of (by decide +kernel)
theorem smallL_n : smallL.n = 7 := by decide +kernel
theorem smallD_n : smallD.n = 8 := by decide +kernel
theorem smallL_small : smallL.Small := ⟨by decide, by decide, by decide, by decide, by decide⟩
theorem smallD_small : smallD.Small := ⟨by decide, by decide, by decide, by decide, by decide⟩
theorem chw_at (w : World) : ChsAt w CHW [[], []] := ⟨fun i hi => by
  have hi : i < 2 := hi
  have h : i = 0 ∨ i = 1 := by omega
  rcases h with rfl | rfl
  · exact IsSl.nil _ w
  · exact IsSl.nil _ w⟩
theorem chw_ok : ChsOK CHW [[], []] := ⟨by decide, fun i hi => by
  have hi : i < 2 := hi
  have h : i = 0 ∨ i = 1 := by omega
  rcases h with rfl | rfl <;> decide, fun i hi => by
  have hi : i < 2 := hi
  have h : i = 0 ∨ i = 1 := by omega
  rcases h with rfl | rfl <;> decide, fun i hi => by
  have hi : i < 2 := hi
  have h : i = 0 ∨ i = 1 := by omega
  rcases h with rfl | rfl <;> simp⟩

theorem z55 : (Tryz.prog.info? 55).bind (·.zero) = some (eBucket.val eBucket.zero) := by kernel_rfl

theorem z46 : (Tryz.prog.info? 46).bind (·.zero) = some ((arrE 16 u8E).val (arrE 16 u8E).zero) := by kernel_rfl

theorem z74 : (Tryz.prog.info? 74).bind (·.zero) = some (eMatch.val eMatch.zero) := by kernel_rfl

theorem small_ok (w : World) : Calls Tryz.prog 33 #[] w (RetN w (fun _ : CB => True) (fun x => eConf.val (x.c 1)) (fun x => x.R smallL)) := by
  refine enter0 19 Tryz.func33 rfl rfl (Nat.le_of_ble_eq_true rfl) ?_
  refine seq (region (cons (alloc z28 (fun b1 => ?_))))
  refine nil (pN (seq (takeNil eMirrorConf 59 ?_)))
  refine region (cons (opv (Ev.buildS (fs := _) (places := [(0, 1), (1, 1), (2, 1)]) z55 rfl Tryz.underlying55 (by kernel_rfl) (.cons (.c (v := U64 1) rfl) (.cons (.c (v := U64 1) rfl) (.cons (.c (v := U64 1) rfl) .nil))) (Fills.cons SBucket.l_num rfl (Fills.cons SBucket.l_den rfl (Fills.cons SBucket.l_burst rfl Fills.nil)))) ?_))
  refine cons (alloc z55 (fun b2 => ?_))
  refine cons (stv ty55 (Lens.id _) (.t rfl) (.t rfl) ?_)
  refine nil (pN (seq (region (cons (buildSlice (E := iE) Tryz.underlying22 ty3 z3 (.cons (.c (v := I 1) rfl) (.cons (.c (v := I 2) rfl) .nil)) rfl rfl (fun v3 => ?_))))))
  refine cons (opv (Ev.buildA z46 Tryz.underlying46 ty5 (.cons (.c (v := U8 10) rfl) .nil) (Fills.cons (lArr u8E 0 (by decide)) rfl Fills.nil)) ?_)
  refine cons (opv (Ev.buildS (fs := _) (places := [(0, 1), (1, 16)]) z48 rfl Tryz.underlying48 (by kernel_rfl) (.cons (.t rfl) .nil) (Fills.cons SAddr.l_b rfl Fills.nil)) ?_)
  refine cons (opv (Ev.buildS (fs := _) (places := [(0, 17), (17, 1)]) z50 rfl Tryz.underlying50 (by kernel_rfl) (.cons (.t rfl) (.cons (.c (v := I 8) rfl) .nil)) (Fills.cons SPrefix.l_addr rfl (Fills.cons SPrefix.l_bits rfl Fills.nil))) ?_)
  refine cons (opv (Ev.buildS (fs := _) (places := [(0, 18), (18, 1)]) z52 rfl Tryz.underlying52 (by kernel_rfl) (.cons (.t rfl) (.cons (.c (v := I 2) rfl) .nil)) (Fills.cons SRoute.l_to_ rfl (Fills.cons SRoute.l_out rfl Fills.nil))) ?_)
  refine cons (buildSlice (E := eRoute) Tryz.underlying23 ty52 z52 (.cons (.t rfl) .nil) rfl rfl (fun v4 => ?_))
  refine cons (opv (Ev.buildS (fs := _) (places := [(0, 1), (1, 44), (45, 1), (46, 1), (47, 1), (48, 1)]) z76 rfl Tryz.underlying76 (by kernel_rfl) (.cons (.c (v := (Go.Value.string (ByteArray.mk #[97]))) rfl) (.cons (.c (v := I 2) rfl) (.cons (.c (v := (Go.Value.string (ByteArray.mk #[109]))) rfl) .nil))) (Fills.cons SRule.l_name rfl (Fills.cons SRule.l_action rfl (Fills.cons SRule.l_meter rfl Fills.nil)))) ?_)
  refine cons (opv (Ev.buildS (fs := _) (places := [(0, 1), (1, 2), (3, 18), (21, 18), (39, 1), (40, 2), (42, 2)]) z74 rfl Tryz.underlying74 (by kernel_rfl) (.cons (.c (v := U8 8) rfl) (.cons (.c (v := U8 17) rfl) .nil)) (Fills.cons SMatch.l_asks rfl (Fills.cons SMatch.l_proto rfl Fills.nil))) ?_)
  refine cons (opv (Ev.buildS (fs := _) (places := [(0, 1), (1, 44), (45, 1), (46, 1), (47, 1), (48, 1)]) z76 rfl Tryz.underlying76 (by kernel_rfl) (.cons (.c (v := (Go.Value.string (ByteArray.mk #[98]))) rfl) (.cons (.t rfl) (.cons (.c (v := I 3) rfl) (.cons (.c (v := I 2) rfl) .nil)))) (Fills.cons SRule.l_name rfl (Fills.cons SRule.l_match_ rfl (Fills.cons SRule.l_action rfl (Fills.cons SRule.l_out rfl Fills.nil))))) ?_)
  refine cons (buildSlice (E := eRule) Tryz.underlying24 ty76 z76 (.cons (.t rfl) (.cons (.t rfl) .nil)) rfl rfl (fun v5 => ?_))
  refine cons (opv (Ev.ldv ty55 (.t rfl) (Lens.id _)) ?_)
  refine cons (opv (Ev.buildS (fs := _) (places := [(0, 1), (1, 3)]) z57 rfl Tryz.underlying57 (by kernel_rfl) (.cons (.c (v := (Go.Value.string (ByteArray.mk #[109]))) rfl) (.cons (.t rfl) .nil)) (Fills.cons SMeterConf.l_name rfl (Fills.cons SMeterConf.l_bucket rfl Fills.nil))) ?_)
  refine cons (opv (Ev.ldv ty55 (.t rfl) (Lens.id _)) ?_)
  refine cons (opv (Ev.buildS (fs := _) (places := [(0, 1), (1, 3)]) z57 rfl Tryz.underlying57 (by kernel_rfl) (.cons (.c (v := (Go.Value.string (ByteArray.mk #[110]))) rfl) (.cons (.t rfl) .nil)) (Fills.cons SMeterConf.l_name rfl (Fills.cons SMeterConf.l_bucket rfl Fills.nil))) ?_)
  refine cons (buildSlice (E := eMeterConf) Tryz.underlying25 ty57 z57 (.cons (.t rfl) (.cons (.t rfl) .nil)) rfl rfl (fun v6 => ?_))
  refine cons (opv (Ev.buildS (fs := _) (places := [(0, 1), (1, 1), (2, 1), (3, 1), (4, 1), (5, 1)]) z28 rfl Tryz.underlying28 (by kernel_rfl) (.cons (.t rfl) (.cons (.t rfl) (.cons (.t rfl) (.cons (.t rfl) (.cons (.c (v := I 1) rfl) .nil))))) (Fills.cons SConf.l_ports rfl (Fills.cons SConf.l_routes rfl (Fills.cons SConf.l_rules rfl (Fills.cons SConf.l_meters rfl (Fills.cons SConf.l_default rfl Fills.nil)))))) ?_)
  refine cons (stv ty28 (Lens.id _) (.t rfl) (.t rfl) ?_)
  refine nil (pN (ret (done rfl (.cell rfl (fun w I => run_loadVar_pts ty28 (ptsVar (by repeat first | exact mH | apply mT | apply mA) (Lens.id _) w I)) .nil) (fun w I => ?_))))
  exact retNP (⟨v3, v4, v5, v6, nilSl⟩ : CB) trivial rfl (by repeat first | exact SubP.nil | refine SubP.cons (by repeat first | exact Rem.head | apply Rem.tail) ?_) w I

theorem diff_w (s d : CB) (w : World) (hs : ConfAt w (s.c 1) smallL) (hd : ConfAt w (d.c 2) smallD) : Calls Tryz.prog 23 #[eConf.val (s.c 1), eConf.val (d.c 2)] w (RetN w (fun _ : OV × OV => True) (fun x => .tuple #[x.1.v, I 0]) (fun x => [OwnS x.1.v eChange CHW 61, OwnS x.2.v eRule [] 76])) := by
  refine (diff_ok (s.c 1) (d.c 2) smallL smallD w hs hd smallL_names smallD_names (by rw [smallL_n]; decide) (by rw [smallD_n]; decide)).mono fun e w1 h => ?_
  obtain ⟨x, h1, h2, h3, h4⟩ := h
  refine ⟨x, h1, ?_, h3, ?_⟩
  · rw [h2]
    show Ending.returned (.tuple #[x.1.v, I (diffE smallL smallD 1 2)]) = _
    rw [w_diffE]
  · have e1 : [OwnS x.1.v eChange (diffL smallL smallD (s.c 1).default (d.c 2).default x.2) 61, OwnS x.2.v eRule (diffR smallL smallD (s.c 1).default (d.c 2).default) 76] = [OwnS x.1.v eChange CHW 61, OwnS x.2.v eRule [] 76] := by
      show [OwnS x.1.v eChange (diffL smallL smallD 1 2 x.2) 61, OwnS x.2.v eRule (diffR smallL smallD 1 2) 76] = _
      rw [w_diff, w_diffR]
    dsimp only at h4
    rw [e1] at h4
    exact h4
theorem apply_w (s : CB) (u : Value) (w : World) (hs : ConfAt w (s.c 1) smallL) (hu : IsSl eChange w u CHW) : Calls Tryz.prog 27 #[eConf.val (s.c 1), u] w (RetN w (fun _ : CB => True) (fun x => .tuple #[eConf.val (x.c 2), I 0]) (fun x => x.R smallD)) := by
  refine (apply_ok (s.c 1) smallL u CHW [[], []] w hs smallL_names (by rw [smallL_n]; decide) hu (chw_at w) chw_ok).mono fun e w1 h => ?_
  have e0 : applyC ⟨smallL, (s.c 1).default⟩ CHW [[], []] = (0, ⟨smallD, 2⟩) := w_apply
  rw [e0] at h
  exact h

theorem en33 : Gx.Enters Tryz.prog 33 := Gx.Enters.mk' (by kernel_rfl)

theorem en23 : Gx.Enters Tryz.prog 23 := Gx.Enters.mk' (by kernel_rfl)

theorem en27 : Gx.Enters Tryz.prog 27 := Gx.Enters.mk' (by kernel_rfl)

theorem en21 : Gx.Enters Tryz.prog 21 := Gx.Enters.mk' (by kernel_rfl)

def SFault.eqb (x y : SFault) : Bool := eqd x.code y.code && (eqd x.at_ y.at_ && (true))

theorem SFault.eqb_iff (x y : SFault) : SFault.eqb x y = true ↔ x = y := by
  obtain ⟨a0, a1⟩ := x
  obtain ⟨b0, b1⟩ := y
  simp only [SFault.eqb, Bool.and_eq_true, eqd_iff, eqd_iff, SFault.mk.injEq, and_true]

theorem ty35 : TyOK Tryz.prog 35 iE := TyOK.mk' (by kernel_rfl) (by kernel_rfl)

theorem eqok37 : EqOK Tryz.prog 37 eFault SFault.eqb 2 := eqok_struct (fs := _) Tryz.underlying37 (by kernel_rfl) rfl (EqF.cons (by decide) rfl SFault.l_code ty35 (eqok_i Tryz.underlying35) (EqF.cons (by decide) rfl SFault.l_at_ ty3 (eqok_i Tryz.underlying3) EqF.nil)) (fun _ _ => rfl)

instance : DecidableEq SFault := fun x y => decidable_of_iff (SFault.eqb x y = true) (SFault.eqb_iff x y)

@[simp] theorem SFault.eqb_dec (x y : SFault) : SFault.eqb x y = decide (x = y) := by
  rw [Bool.eq_iff_iff, decide_eq_true_iff]
  exact SFault.eqb_iff x y

theorem SFault.eqb_self (x : SFault) : SFault.eqb x x = true := (SFault.eqb_iff x x).2 rfl

theorem works_ok (w : World) : Calls Tryz.prog 20 #[] w (RetV w (.bool true)) := by
  refine enter0 70 Tryz.func20 rfl rfl (Nat.le_of_ble_eq_true rfl) ?_
  refine seq (region (cons (opv (Ev.assign (.c (v := .bool false) rfl)) ?_)))
  refine nil (pN (seq (region (cons (calln (X := CB) (fun _ => True) (fun x => eConf.val (x.c 1)) (fun x => x.R smallL) en33 .nil (fun w I => small_ok w) (fun s0 _ => ?_))))))
  refine cons (alloc z28 (fun b1 => ?_))
  refine cons (stv ty28 (Lens.id _) (.t rfl) (.t rfl) ?_)
  refine nil (pN (seq (region (cons (opv (Ev.to (v' := eConf.val (s0.c 1)) (Ev.ldv ty28 (.t rfl) (Lens.id _)) (rfl)) ?_)))))
  refine cons (calln (X := CB) (fun _ => True) (fun x => eConf.val (x.c 1)) (fun x => x.R smallL) en16 (.cons (.t rfl) .nil) (fun w I => copy_ok (s0.c 1) smallL w (confAt_own (x := s0) (l := smallL) (fun r hr => by simp only [CB.R, List.mem_cons, List.not_mem_nil, or_false] at hr; rcases hr with rfl | rfl | rfl | rfl | rfl <;> repeat first | exact mH | apply mT | apply mA) w I) smallL_small) (fun x1 _ => ?_))
  refine cons (alloc z28 (fun b2 => ?_))
  refine cons (stv ty28 (Lens.id _) (.t rfl) (.t rfl) ?_)
  refine nil (pN (seq (region (cons (opv (Ev.fieldAddr (o := 0) (.t rfl) (by kernel_rfl)) ?_)))))
  refine cons (opv (Ev.to (v' := x1.o1.v) (Ev.ldv ty22 (.t rfl) SConf.l_ports) (rfl)) ?_)
  refine cons (buildSlice (E := iE) Tryz.underlying22 ty3 z3 (.cons (.c (v := I 3) rfl) .nil) rfl rfl (fun v3 => ?_))
  refine cons (append (E := iE) Tryz.underlying22 ty3 rfl zb3 zs3 (.t rfl) (.t rfl) (fun _ => by repeat first | exact Upd.head | apply Upd.tail | apply Upd.right) (by first | exact isSl_own (by repeat first | exact mH | apply mT | apply mA) | exact fun w I => IsSl.keep0 (by assumption) I.keeps) (⟨by decide, by decide⟩) (fun v4 => ?_))
  refine cons (opv (Ev.fieldAddr (o := 0) (.t rfl) (by kernel_rfl)) ?_)
  refine cons (stv ty22 SConf.l_ports (.t rfl) (.t rfl) ?_)
  refine nil (pN (seq (region (cons (opv (Ev.fieldAddr (o := 5) (.t rfl) (by kernel_rfl)) ?_)))))
  refine cons (stv ty3 SConf.l_default (.t rfl) (.c (v := I 2) rfl) ?_)
  refine nil (pN (seq (region (cons (opv (Ev.to (v' := eConf.val (s0.c 1)) (Ev.ldv ty28 (.t rfl) (Lens.id _)) (rfl)) ?_)))))
  refine cons (opv (Ev.to (v' := eConf.val ((⟨v4, x1.o2, x1.o3, x1.o4, x1.o5⟩ : CB).c 2)) (Ev.ldv ty28 (.t rfl) (Lens.id _)) (rfl)) ?_)
  refine cons (calln (X := OV × OV) (fun _ => True) (fun x => .tuple #[x.1.v, I 0]) (fun x => [OwnS x.1.v eChange CHW 61, OwnS x.2.v eRule [] 76]) en23 (.cons (.t rfl) (.cons (.t rfl) .nil)) (fun w I => diff_w s0 (⟨v4, x1.o2, x1.o3, x1.o4, x1.o5⟩ : CB) w (confAt_own (x := s0) (l := smallL) (fun r hr => by simp only [CB.R, List.mem_cons, List.not_mem_nil, or_false] at hr; rcases hr with rfl | rfl | rfl | rfl | rfl <;> repeat first | exact mH | apply mT | apply mA) w I) (confAt_own (x := (⟨v4, x1.o2, x1.o3, x1.o4, x1.o5⟩ : CB)) (l := smallD) (fun r hr => by simp only [CB.R, List.mem_cons, List.not_mem_nil, or_false] at hr; rcases hr with rfl | rfl | rfl | rfl | rfl <;> repeat first | exact mH | apply mT | apply mA) w I)) (fun d1 _ => ?_))
  refine cons (opv (Ev.move (.t rfl)) (cons (opv (Ev.extract (.t rfl) rfl) (cons (opv (Ev.extract (.t rfl) rfl) (cons (opv (Ev.assign (.t rfl)) (cons (opv (Ev.assign (.t rfl)) (nil (pN (seq (region (cons (opv (Ev.to (v' := eConf.val (s0.c 1)) (Ev.ldv ty28 (.t rfl) (Lens.id _)) (rfl)) ?_)))))))))))))))
  refine cons (opv (Ev.move (.t rfl)) (cons (calln (X := CB) (fun _ => True) (fun x => .tuple #[eConf.val (x.c 2), I 0]) (fun x => x.R smallD) en27 (.cons (.t rfl) (.cons (.t rfl) .nil)) (fun w I => apply_w s0 _ w (confAt_own (x := s0) (l := smallL) (fun r hr => by simp only [CB.R, List.mem_cons, List.not_mem_nil, or_false] at hr; rcases hr with rfl | rfl | rfl | rfl | rfl <;> repeat first | exact mH | apply mT | apply mA) w I) (isSl_own (by repeat first | exact mH | apply mT | apply mA) w I)) (fun a1 _ => ?_))))
  refine cons (opv (Ev.move (.t rfl)) (cons (opv (Ev.extract (.t rfl) rfl) (cons (opv (Ev.extract (.t rfl) rfl) (cons (alloc z28 (fun b5 => ?_))))))))
  refine cons (stv ty28 (Lens.id _) (.t rfl) (.t rfl) ?_)
  refine cons (opv (Ev.assign (.t rfl)) (nil (pN (seq (region (cons (opv (Ev.fieldAddr (o := 5) (.t rfl) (by kernel_rfl)) ?_)))))))
  refine cons (stv ty3 SConf.l_default (.t rfl) (.c (v := I 0) rfl) ?_)
  refine nil (pN (seq (region (cons (opv (Ev.to (v' := eConf.val (s0.c 0)) (Ev.ldv ty28 (.t rfl) (Lens.id _)) (rfl)) ?_)))))
  refine cons (callo (xs := ([⟨2, 7⟩] : List SFault)) en12 (.cons (.t rfl) .nil) (fun w I => by have h := conf_check (s0.c 0) smallL w (confAt_own (x := s0) (l := smallL) (fun r hr => by simp only [CB.R, List.mem_cons, List.not_mem_nil, or_false] at hr; rcases hr with rfl | rfl | rfl | rfl | rfl <;> repeat first | exact mH | apply mT | apply mA) w I) smallL_names (by rw [smallL_n]; decide); rw [show checkF smallL (s0.c 0).default = ([⟨2, 7⟩] : List SFault) from w_check] at h; exact h) (fun f1 => ?_))
  refine cons (opv (Ev.assign (.t rfl)) (nil (pN (seq (draw' (by kernel_rfl) ?_)))))
  refine tk 0 rfl (Ev.move (.t rfl)) ?_
  refine tk 1 rfl (Ev.to (v' := .bool true) (Ev.eql_i (.t rfl) (.c (v := I 0) rfl)) (congrArg Value.bool (by decide +kernel))) ?_
  refine tk 2 rfl (Ev.move (.t rfl)) ?_
  refine tkg 3 rfl rfl rfl (Ev.move (.t rfl)) ?_
  refine tkg 4 rfl rfl rfl (Ev.to (v' := .bool true) (Ev.eql_i (.g rfl id) (.c (v := I 0) rfl)) (congrArg Value.bool (by decide +kernel))) ?_
  refine tk 5 rfl (Ev.to (v' := .bool true) (Ev.pickA (.t rfl) (fun {_} h => by cases h; rfl) ⟨_, rfl⟩ (by intro h1 h; first | (rw [h] <;> rfl) | (rw [h1, h] <;> rfl) | (rw [h, h1] <;> rfl) | simp_all) (.c (v := .bool false) rfl)) (rfl)) ?_
  refine tk 6 rfl (Ev.move (.t rfl)) ?_
  refine tkg 7 rfl rfl rfl (Ev.move (.t rfl)) ?_
  refine tkg 8 rfl rfl rfl (Ev.len Tryz.underlying41 (.g rfl id) (by first | exact isSl_own (by repeat first | exact mH | apply mT | apply mA) | exact fun w I => IsSl.keep0 (by assumption) I.keeps)) ?_
  refine tkg 9 rfl rfl rfl (Ev.to (v' := .bool true) (Ev.eql_i (.g rfl id) (.c (v := I 2) rfl)) (congrArg Value.bool (by decide +kernel))) ?_
  refine tk 10 rfl (Ev.to (v' := .bool true) (Ev.pickA (.t rfl) (fun {_} h => by cases h; rfl) ⟨_, rfl⟩ (by intro h1 h; first | (rw [h] <;> rfl) | (rw [h1, h] <;> rfl) | (rw [h, h1] <;> rfl) | simp_all) (.c (v := .bool false) rfl)) (rfl)) ?_
  refine tk 11 rfl (Ev.move (.t rfl)) ?_
  refine tkg 12 rfl rfl rfl (Ev.to (v' := eConf.val (a1.c 2)) (Ev.ldv ty28 (.t rfl) (Lens.id _)) (rfl)) ?_
  refine tkg 13 rfl rfl rfl (Ev.to (v' := eConf.val ((⟨v4, x1.o2, x1.o3, x1.o4, x1.o5⟩ : CB).c 2)) (Ev.ldv ty28 (.t rfl) (Lens.id _)) (rfl)) ?_
  refine al1 14 rfl ((callg rfl rfl en21 (.cons (.g rfl id) (.cons (.g rfl id) .nil)) (fun hg w I => same_ok (a1.c 2) ((⟨v4, x1.o2, x1.o3, x1.o4, x1.o5⟩ : CB).c 2) smallD smallD w (confAt_own (x := a1) (l := smallD) (fun r hr => by simp only [CB.R, List.mem_cons, List.not_mem_nil, or_false] at hr; rcases hr with rfl | rfl | rfl | rfl | rfl <;> repeat first | exact mH | apply mT | apply mA) w I) (confAt_own (x := (⟨v4, x1.o2, x1.o3, x1.o4, x1.o5⟩ : CB)) (l := smallD) (fun r hr => by simp only [CB.R, List.mem_cons, List.not_mem_nil, or_false] at hr; rcases hr with rfl | rfl | rfl | rfl | rfl <;> repeat first | exact mH | apply mT | apply mA) w I) smallD_small smallD_small) ?_))
  refine hdn (tk 15 rfl (Ev.to (v' := .bool true) (Ev.pickA (.t rfl) (fun {_} h => by cases h; rfl) ⟨_, rfl⟩ (by intro h1 h; first | (rw [h] <;> rfl) | (rw [h1, h] <;> rfl) | (rw [h, h1] <;> rfl) | simp_all) (.c (v := .bool false) rfl)) (congrArg Value.bool w_same)) ?_)
  refine tk 16 rfl (Ev.move (.t rfl)) ?_
  refine tkg 17 rfl rfl rfl (Ev.to (v' := eConf.val (a1.c 2)) (Ev.ldv ty28 (.t rfl) (Lens.id _)) (rfl)) ?_
  refine al1 18 rfl ((opgT rfl rfl rfl ?_))
  refine (calln (X := CB) (fun _ => True) (fun x => eConf.val (x.c 1)) (fun x => x.R smallL) en33 .nil (fun w I => small_ok w) (fun s2 _ => ?_))
  refine hdn (al1 19 rfl ((callg rfl rfl en21 (.cons (.g rfl id) (.cons (.t rfl) .nil)) (fun hg w I => same_ok (a1.c 2) (s2.c 1) smallD smallL w (confAt_own (x := a1) (l := smallD) (fun r hr => by simp only [CB.R, List.mem_cons, List.not_mem_nil, or_false] at hr; rcases hr with rfl | rfl | rfl | rfl | rfl <;> repeat first | exact mH | apply mT | apply mA) w I) (confAt_own (x := s2) (l := smallL) (fun r hr => by simp only [CB.R, List.mem_cons, List.not_mem_nil, or_false] at hr; rcases hr with rfl | rfl | rfl | rfl | rfl <;> repeat first | exact mH | apply mT | apply mA) w I) smallD_small smallL_small) ?_)))
  refine hdn (tkg 20 rfl rfl rfl (Ev.to (v' := .bool true) (Ev.not (.g rfl id)) (congrArg Value.bool (by show (!sameB smallD smallL 2 1) = true; rw [w_other]; rfl))) ?_)
  refine tk 21 rfl (Ev.to (v' := .bool true) (Ev.pickA (.t rfl) (fun {_} h => by cases h; rfl) ⟨_, rfl⟩ (by intro h1 h; first | (rw [h] <;> rfl) | (rw [h1, h] <;> rfl) | (rw [h, h1] <;> rfl) | simp_all) (.c (v := .bool false) rfl)) (rfl)) ?_
  refine tk 22 rfl (Ev.move (.t rfl)) ?_
  refine tkg 23 rfl rfl rfl (Ev.to (v' := eConf.val ((⟨v4, x1.o2, x1.o3, x1.o4, x1.o5⟩ : CB).c 2)) (Ev.ldv ty28 (.t rfl) (Lens.id _)) (rfl)) ?_
  refine al1 24 rfl ((callg rfl rfl en15 (.cons (.g rfl id) .nil) (fun hg w I => may_ok ((⟨v4, x1.o2, x1.o3, x1.o4, x1.o5⟩ : CB).c 2) smallD w (confAt_own (x := (⟨v4, x1.o2, x1.o3, x1.o4, x1.o5⟩ : CB)) (l := smallD) (fun r hr => by simp only [CB.R, List.mem_cons, List.not_mem_nil, or_false] at hr; rcases hr with rfl | rfl | rfl | rfl | rfl <;> repeat first | exact mH | apply mT | apply mA) w I) smallD_names (by rw [smallD_n]; decide)) ?_))
  refine hdn (tk 25 rfl (Ev.to (v' := .bool true) (Ev.pickA (.t rfl) (fun {_} h => by cases h; rfl) ⟨_, rfl⟩ (by intro h1 h; first | (rw [h] <;> rfl) | (rw [h1, h] <;> rfl) | (rw [h, h1] <;> rfl) | simp_all) (.c (v := .bool false) rfl)) (congrArg Value.bool w_may)) ?_)
  refine tk 26 rfl (Ev.move (.t rfl)) ?_
  refine tkg 27 rfl rfl rfl (Ev.move (.t rfl)) ?_
  refine tkg 28 rfl rfl rfl (Ev.len Tryz.underlying31 (.g rfl id) (by first | exact isSl_own (by repeat first | exact mH | apply mT | apply mA) | exact fun w I => IsSl.keep0 (by assumption) I.keeps)) ?_
  refine tkg 29 rfl rfl rfl (Ev.to (v' := .bool true) (Ev.eql_i (.g rfl id) (.c (v := I 1) rfl)) (congrArg Value.bool (by decide +kernel))) ?_
  refine tk 30 rfl (Ev.to (v' := .bool true) (Ev.pickA (.t rfl) (fun {_} h => by cases h; rfl) ⟨_, rfl⟩ (by intro h1 h; first | (rw [h] <;> rfl) | (rw [h1, h] <;> rfl) | (rw [h, h1] <;> rfl) | simp_all) (.c (v := .bool false) rfl)) (rfl)) ?_
  refine tk 31 rfl (Ev.move (.t rfl)) ?_
  refine tkg 32 rfl rfl rfl (Ev.move (.t rfl)) ?_
  refine tkg 33 rfl rfl rfl (Ev.indexAddr Tryz.underlying31 ty37 (.g rfl id) (.c (v := I 0) rfl) (by first | exact isSl_own (by repeat first | exact mH | apply mT | apply mA) | exact fun w I => IsSl.keep0 (by assumption) I.keeps) (fun _ => by decide)) ?_
  refine tkg 34 rfl rfl rfl (Ev.loadS0 (i := 0) ty37 (.g rfl id) (by first | exact isSl_own (by repeat first | exact mH | apply mT | apply mA) | exact fun w I => IsSl.keep0 (by assumption) I.keeps) (fun _ => by decide)) ?_
  refine tkg 35 rfl rfl rfl (Ev.buildS (fs := _) (places := [(0, 1), (1, 1)]) z37 rfl Tryz.underlying37 (by kernel_rfl) (.cons (.c (v := I 2) rfl) (.cons (.c (v := I 7) rfl) .nil)) (Fills.cons SFault.l_code rfl (Fills.cons SFault.l_at_ rfl Fills.nil))) ?_
  refine tkg 36 rfl rfl rfl (Ev.to (v' := .bool true) (Ev.eqlS rfl eqok37 rfl (by kernel_rfl) (.g rfl id) (.g rfl id)) (congrArg Value.bool (by decide +kernel))) ?_
  refine tk 37 rfl (Ev.to (v' := .bool true) (Ev.pickA (.t rfl) (fun {_} h => by cases h; rfl) ⟨_, rfl⟩ (by intro h1 h; first | (rw [h] <;> rfl) | (rw [h1, h] <;> rfl) | (rw [h, h1] <;> rfl) | simp_all) (.c (v := .bool false) rfl)) (rfl)) ?_
  refine tk 38 rfl (Ev.assign (.t rfl)) ?_
  refine ovr (pN (ret (done rfl (.tmp rfl .nil) (retE ?_))))
  rfl
end Go.Proofs.YtnoobdijbpmjkaaGreat
