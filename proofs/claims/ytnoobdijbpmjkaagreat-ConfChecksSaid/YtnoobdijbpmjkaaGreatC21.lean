/- conf -/
import Derived.Test.YtnoobdijbpmjkaaGreatC20
set_option linter.unusedVariables false
set_option linter.unusedSimpArgs false
namespace Go.Proofs.YtnoobdijbpmjkaaGreat
open Go Go.Gx

def diffs (l k : CL) (da db : Int) (rv : OV) : List SChange := (((((((((([] ++ goneL eqd (fun a => a) (portsM l) (fun x => chPort 1 x) k.ps) ++ goneL SMeterConf.eqb (fun a => a) (firstN SMeterConf.eqb (fun a => a) l.ms l.ms.length) (fun x => chMeter 5 x) k.ms) ++ goneL SMirrorConf.eqb (fun a => a) (firstN SMirrorConf.eqb (fun a => a) l.xs l.xs.length) (fun x => chMirror 7 x) k.xs) ++ goneL SRoute.eqb (fun a => a) (firstN SRoute.eqb (fun a => a) l.rs l.rs.length) (fun x => chRoute 3 x) k.rs) ++ (if l.us = k.us then [] else [chRules rv])) ++ (if da = db then [] else [chDefault db])) ++ goneL SPrefix.eqb (fun a => a.to_) (routesM k) (fun x => chRoute 4 (onlyR x)) l.rs) ++ goneL eqs (fun a => a.name) (metersM k) (fun x => chMeter 6 (onlyM x)) l.ms) ++ goneL eqs (fun a => a.name) (mirrorsM k) (fun x => chMirror 8 (onlyX x)) l.xs) ++ goneL eqd (fun a => a) (portsM k) (fun x => chPort 2 x) l.ps)
def bothB (l k : CL) (da db : Int) : Bool := mayB l da && mayB k db
def diffE (l k : CL) (da db : Int) : Int := if bothB l k da db = true then 0 else 210
/-- What they differ in. -/
def diffL (l k : CL) (da db : Int) (rv : OV) : List SChange := if bothB l k da db = true then diffs l k da db rv else []
def diffR (l k : CL) (da db : Int) : List SRule := if bothB l k da db = true then (if l.us = k.us then [] else k.us) else []
theorem ite_len {α : Type} {p : Prop} [Decidable p] (x : α) : (if p then [] else [x]).length ≤ 1 := by split <;> simp
theorem listG_nil {e : Nat → Int} {d : Int} {n most : Nat} (h : listG e d n most = []) : n ≤ most := by
  unfold listG at h
  have h2 := (List.append_eq_nil_iff.1 h).2
  by_cases hm : most < n
  · rw [if_pos hm] at h2; cases h2
  · omega
theorem may_lens {l : CL} {d : Int} (h : mayB l d = true) : l.ps.length ≤ 256 ∧ l.rs.length ≤ 1024 ∧ l.us.length ≤ 256 ∧ l.ms.length ≤ 64 ∧ l.xs.length ≤ 16 := by
  unfold mayB checkF thingsF at h
  have h := (List.append_eq_nil_iff.1 (of_decide_eq_true h)).1
  have e5 := List.append_eq_nil_iff.1 h
  have e4 := List.append_eq_nil_iff.1 e5.1
  have e3 := List.append_eq_nil_iff.1 e4.1
  have e2 := List.append_eq_nil_iff.1 e3.1
  have e1 := List.append_eq_nil_iff.1 e2.1
  exact ⟨listG_nil e1.2, listG_nil e2.2, listG_nil e3.2, listG_nil e4.2, listG_nil e5.2⟩

theorem en65 : Gx.Enters Tryz.prog 65 := Gx.Enters.mk' (by kernel_rfl)

theorem en66 : Gx.Enters Tryz.prog 66 := Gx.Enters.mk' (by kernel_rfl)

theorem en69 : Gx.Enters Tryz.prog 69 := Gx.Enters.mk' (by kernel_rfl)

theorem en70 : Gx.Enters Tryz.prog 70 := Gx.Enters.mk' (by kernel_rfl)

theorem en73 : Gx.Enters Tryz.prog 73 := Gx.Enters.mk' (by kernel_rfl)

theorem en74 : Gx.Enters Tryz.prog 74 := Gx.Enters.mk' (by kernel_rfl)

theorem en77 : Gx.Enters Tryz.prog 77 := Gx.Enters.mk' (by kernel_rfl)

theorem en78 : Gx.Enters Tryz.prog 78 := Gx.Enters.mk' (by kernel_rfl)

theorem en80 : Gx.Enters Tryz.prog 80 := Gx.Enters.mk' (by kernel_rfl)

theorem en81 : Gx.Enters Tryz.prog 81 := Gx.Enters.mk' (by kernel_rfl)

theorem en83 : Gx.Enters Tryz.prog 83 := Gx.Enters.mk' (by kernel_rfl)

theorem en84 : Gx.Enters Tryz.prog 84 := Gx.Enters.mk' (by kernel_rfl)

theorem en86 : Gx.Enters Tryz.prog 86 := Gx.Enters.mk' (by kernel_rfl)

theorem en87 : Gx.Enters Tryz.prog 87 := Gx.Enters.mk' (by kernel_rfl)

theorem en88 : Gx.Enters Tryz.prog 88 := Gx.Enters.mk' (by kernel_rfl)

theorem en15 : Gx.Enters Tryz.prog 15 := Gx.Enters.mk' (by kernel_rfl)

theorem z41 : (Tryz.prog.info? 41).bind (·.zero) = some ((ovE nilSl).val (ovE nilSl).zero) := by kernel_rfl

theorem z113 : (Tryz.prog.info? 113).bind (·.zero) = some ((ovE nilFn).val (ovE nilFn).zero) := by kernel_rfl

theorem en64 : Gx.Enters Tryz.prog 64 := Gx.Enters.mk' (by kernel_rfl)

theorem en68 : Gx.Enters Tryz.prog 68 := Gx.Enters.mk' (by kernel_rfl)

theorem en67 : Gx.Enters Tryz.prog 67 := Gx.Enters.mk' (by kernel_rfl)

theorem en72 : Gx.Enters Tryz.prog 72 := Gx.Enters.mk' (by kernel_rfl)

theorem en71 : Gx.Enters Tryz.prog 71 := Gx.Enters.mk' (by kernel_rfl)

theorem en76 : Gx.Enters Tryz.prog 76 := Gx.Enters.mk' (by kernel_rfl)

theorem en75 : Gx.Enters Tryz.prog 75 := Gx.Enters.mk' (by kernel_rfl)

theorem en79 : Gx.Enters Tryz.prog 79 := Gx.Enters.mk' (by kernel_rfl)

theorem en82 : Gx.Enters Tryz.prog 82 := Gx.Enters.mk' (by kernel_rfl)

theorem en85 : Gx.Enters Tryz.prog 85 := Gx.Enters.mk' (by kernel_rfl)

theorem diff_ok (a b : SConf) (l k : CL) (w : World) (ha : ConfAt w a l) (hb : ConfAt w b k) (hln : l.Names) (hkn : k.Names) (hlz : l.n ≤ 4611686018427387904) (hkz : k.n ≤ 4611686018427387904) : Calls Tryz.prog 23 #[eConf.val a, eConf.val b] w (RetN w (fun _ : OV × OV => True) (fun x => .tuple #[x.1.v, I (diffE l k a.default b.default)]) (fun x => [OwnS x.1.v eChange (diffL l k a.default b.default x.2) 61, OwnS x.2.v eRule (diffR l k a.default b.default) 76])) := by
  refine enter0 97 Tryz.func23 rfl rfl (Nat.le_of_ble_eq_true rfl) ?_
  refine seq (region (cons (box (E := eConf) (.t rfl) (fun b1 => ?_))))
  refine cons (box (E := eConf) (.t rfl) (fun b2 => ?_))
  refine cons (opv (Ev.assign (.c (v := (Go.Value.slice none 0 0)) rfl)) ?_)
  refine cons (opv (Ev.assign (.c (v := I 0) rfl)) ?_)
  refine nil (pN (seq (seq (region (cons (opv (Ev.load (xv := a) ty28 (.t rfl) (ptsVar (by repeat first | exact mH | apply mT | apply mA) (Lens.id _))) ?_))))))
  refine cons (callv en15 (.cons (.t rfl) .nil) (fun w I => may_ok a l w (ha.keep0 I.keeps) hln hlz) ?_)
  refine cons (opv (Ev.not (.t rfl)) ?_)
  refine cons (opv (Ev.move (.t rfl)) (cons (opg rfl rfl (Ev.load (xv := b) ty28 (.t rfl) (ptsVar (by repeat first | exact mH | apply mT | apply mA) (Lens.id _))) ?_)))
  refine cons (callg rfl rfl en15 (.cons (.g rfl id) .nil) (fun hg w I => may_ok b k w (hb.keep0 I.keeps) hkn hkz) ?_)
  refine cons (opg rfl rfl (Ev.not (.g rfl id)) ?_)
  refine cons (opv (Ev.pickO (.t rfl) (.c (v := .bool true) rfl) (fun {_} h => by cases h; rfl) ⟨_, rfl⟩ (by intro h1 h; first | (rw [h] <;> rfl) | (rw [h1, h] <;> rfl) | (rw [h, h1] <;> rfl) | simp_all)) ?_)
  refine nil (pN ?_)
  first | refine condD rfl (fun h0 => ?_) (fun h0 => ?_) | refine cond rfl (fun h0 => ?_) (fun h0 => ?_)
  · have hbo : bothB l k a.default b.default = false := by
      unfold bothB
      rw [Bool.and_eq_false_iff]
      simpa using h0
    refine seq (region (takeNil eRule 76 ?_))
    refine takeNil eChange 61 ?_
    refine cons (opv (Ev.assign (.c (v := (Go.Value.slice none 0 0)) rfl)) ?_)
    refine cons (opv (Ev.assign (.c (v := I 210) rfl)) ?_)
    refine nil (pN (ret (pR (done rfl (.tmp rfl (.tmp rfl .nil)) (fun w I => ?_)))))
    exact retNP (nilSl, nilSl) trivial (by unfold diffE; rw [hbo]; rfl) (by unfold diffL diffR; rw [hbo]; exact (by repeat first | exact SubP.nil | refine SubP.cons (by repeat first | exact Rem.head | apply Rem.tail) ?_)) w I
  · have hbo : bothB l k a.default b.default = true := by
      unfold bothB
      simpa using h0
    have hbl := may_lens (Bool.and_eq_true_iff.1 hbo).1
    have hbk := may_lens (Bool.and_eq_true_iff.1 hbo).2
    refine skip (pN (seq (region (cons (alloc z41 (fun b3 => ?_))))))
    refine nil (pN (seq (region (cons (opv (Ev.makeFunc (f := 63) (.cons (.t rfl) .nil)) ?_)))))
    refine cons (alloc z113 (fun b4 => ?_))
    refine cons (stv ty113 (Lens.id _) (.t rfl) (.t rfl) ?_)
    refine nil (pN (cut (X := KB × KB × Nat × Nat) (fun x : KB × KB × Nat × Nat => True) (fun x : KB × KB × Nat × Nat => [(2, true, .pointer (some ⟨b1, 0, none⟩)), (3, true, .pointer (some ⟨b2, 0, none⟩)), (6, true, .pointer (some ⟨b3, 0, none⟩)), (7, true, .pointer (some ⟨b4, 0, none⟩)), (8, true, .pointer (some ⟨x.2.2.1, 0, none⟩)), (9, true, .pointer (some ⟨x.2.2.2, 0, none⟩))]) (fun x : KB × KB × Nat × Nat => [DR b4 b3 nilSl [], Var x.2.2.1 eConfKnown x.1.k 84, Var x.2.2.2 eConfKnown x.2.1.k 84, KnR x.1 l, KnR x.2.1 k, Var b2 eConf b 28, Var b1 eConf a 28]) ?_ (fun x hx => ?_)))
    · refine takeNil eChange 61 ?_
      refine sepIn (r := Var b3 (ovE nilSl) nilSl 41) (s := OwnS nilSl.v eChange [] 61) (Rem.tail (Rem.tail Rem.head)) Rem.head ?_
      refine sepIn (r := Var b4 (ovE nilFn) (clo 63 [.pointer (some ⟨b3, 0, none⟩)]) 113) (s := OR b3 nilSl []) (Rem.tail Rem.head) Rem.head ?_
      refine draw' (by kernel_rfl) ?_
      refine tk 0 rfl (Ev.load (xv := a) ty28 (.t rfl) (ptsVar (by repeat first | exact mH | apply mT | apply mA) (Lens.id _))) ?_
      refine tk 2 rfl (Ev.load (xv := b) ty28 (.t rfl) (ptsVar (by repeat first | exact mH | apply mT | apply mA) (Lens.id _))) ?_
      refine all [1, 4, 5] (by kernel_rfl) (by decide) (.cons rfl ?_ (.cons rfl ?_ (.cons rfl ?_ .nil)))
      · refine (calln (X := KB) (fun _ => True) (fun x => eConfKnown.val x.k) (fun x => x.R l) en36 (.cons (.t rfl) .nil) (fun w I => of_ok _ l w (ha.keep0 I.keeps)) (fun ka _ => known_in ?_))
        refine hdn (all [3, 4, 5] (by kernel_rfl) (by decide) (.cons rfl ?_ (.cons rfl ?_ (.cons rfl ?_ .nil))))
        · refine (calln (X := KB) (fun _ => True) (fun x => eConfKnown.val x.k) (fun x => x.R k) en36 (.cons (.t rfl) .nil) (fun w I => of_ok _ k w (hb.keep0 I.keeps)) (fun kb _ => known_in ?_))
          refine hdn (all [4, 5] (by kernel_rfl) (by decide) (.cons rfl ?_ (.cons rfl ?_ .nil)))
          · refine (alloc z84 (fun b5 => ?_))
            refine hdn (al1 5 rfl ((alloc z84 (fun b6 => ?_))))
            refine hdn (al1 6 rfl ((stv ty84 (Lens.id _) (.t rfl) (.t rfl) ?_)))
            refine hdn (al1 7 rfl ((stv ty84 (Lens.id _) (.t rfl) (.t rfl) ?_)))
            refine hdn (ovr (pN (meetP (X := KB × KB × Nat × Nat) (_, _, _, _) trivial (by repeat first | exact Sub.nil | refine Sub.cons rfl ?_) (by repeat first | exact SubP.nil | refine SubP.cons (by repeat first | exact Rem.head | apply Rem.tail) ?_))))
          · refine (alloc z84 (fun b7 => ?_))
            refine hdn (al1 4 rfl ((alloc z84 (fun b8 => ?_))))
            refine hdn (al1 6 rfl ((stv ty84 (Lens.id _) (.t rfl) (.t rfl) ?_)))
            refine hdn (al1 7 rfl ((stv ty84 (Lens.id _) (.t rfl) (.t rfl) ?_)))
            refine hdn (ovr (pN (meetP (X := KB × KB × Nat × Nat) (_, _, _, _) trivial (by repeat first | exact Sub.nil | refine Sub.cons rfl ?_) (by repeat first | exact SubP.nil | refine SubP.cons (by repeat first | exact Rem.head | apply Rem.tail) ?_))))
        · refine (alloc z84 (fun b9 => ?_))
          refine hdn (all [3, 5] (by kernel_rfl) (by decide) (.cons rfl ?_ (.cons rfl ?_ .nil)))
          · refine (calln (X := KB) (fun _ => True) (fun x => eConfKnown.val x.k) (fun x => x.R k) en36 (.cons (.t rfl) .nil) (fun w I => of_ok _ k w (hb.keep0 I.keeps)) (fun kb _ => known_in ?_))
            refine hdn (al1 5 rfl ((alloc z84 (fun b10 => ?_))))
            refine hdn (al1 6 rfl ((stv ty84 (Lens.id _) (.t rfl) (.t rfl) ?_)))
            refine hdn (al1 7 rfl ((stv ty84 (Lens.id _) (.t rfl) (.t rfl) ?_)))
            refine hdn (ovr (pN (meetP (X := KB × KB × Nat × Nat) (_, _, _, _) trivial (by repeat first | exact Sub.nil | refine Sub.cons rfl ?_) (by repeat first | exact SubP.nil | refine SubP.cons (by repeat first | exact Rem.head | apply Rem.tail) ?_))))
          · refine (alloc z84 (fun b11 => ?_))
            refine hdn (al1 3 rfl ((calln (X := KB) (fun _ => True) (fun x => eConfKnown.val x.k) (fun x => x.R k) en36 (.cons (.t rfl) .nil) (fun w I => of_ok _ k w (hb.keep0 I.keeps)) (fun kb _ => known_in ?_))))
            refine hdn (al1 6 rfl ((stv ty84 (Lens.id _) (.t rfl) (.t rfl) ?_)))
            refine hdn (al1 7 rfl ((stv ty84 (Lens.id _) (.t rfl) (.t rfl) ?_)))
            refine hdn (ovr (pN (meetP (X := KB × KB × Nat × Nat) (_, _, _, _) trivial (by repeat first | exact Sub.nil | refine Sub.cons rfl ?_) (by repeat first | exact SubP.nil | refine SubP.cons (by repeat first | exact Rem.head | apply Rem.tail) ?_))))
        · refine (alloc z84 (fun b12 => ?_))
          refine hdn (all [3, 4] (by kernel_rfl) (by decide) (.cons rfl ?_ (.cons rfl ?_ .nil)))
          · refine (calln (X := KB) (fun _ => True) (fun x => eConfKnown.val x.k) (fun x => x.R k) en36 (.cons (.t rfl) .nil) (fun w I => of_ok _ k w (hb.keep0 I.keeps)) (fun kb _ => known_in ?_))
            refine hdn (al1 4 rfl ((alloc z84 (fun b13 => ?_))))
            refine hdn (al1 6 rfl ((stv ty84 (Lens.id _) (.t rfl) (.t rfl) ?_)))
            refine hdn (al1 7 rfl ((stv ty84 (Lens.id _) (.t rfl) (.t rfl) ?_)))
            refine hdn (ovr (pN (meetP (X := KB × KB × Nat × Nat) (_, _, _, _) trivial (by repeat first | exact Sub.nil | refine Sub.cons rfl ?_) (by repeat first | exact SubP.nil | refine SubP.cons (by repeat first | exact Rem.head | apply Rem.tail) ?_))))
          · refine (alloc z84 (fun b14 => ?_))
            refine hdn (al1 3 rfl ((calln (X := KB) (fun _ => True) (fun x => eConfKnown.val x.k) (fun x => x.R k) en36 (.cons (.t rfl) .nil) (fun w I => of_ok _ k w (hb.keep0 I.keeps)) (fun kb _ => known_in ?_))))
            refine hdn (al1 6 rfl ((stv ty84 (Lens.id _) (.t rfl) (.t rfl) ?_)))
            refine hdn (al1 7 rfl ((stv ty84 (Lens.id _) (.t rfl) (.t rfl) ?_)))
            refine hdn (ovr (pN (meetP (X := KB × KB × Nat × Nat) (_, _, _, _) trivial (by repeat first | exact Sub.nil | refine Sub.cons rfl ?_) (by repeat first | exact SubP.nil | refine SubP.cons (by repeat first | exact Rem.head | apply Rem.tail) ?_))))
      · refine (alloc z84 (fun b15 => ?_))
        refine hdn (all [1, 5] (by kernel_rfl) (by decide) (.cons rfl ?_ (.cons rfl ?_ .nil)))
        · refine (calln (X := KB) (fun _ => True) (fun x => eConfKnown.val x.k) (fun x => x.R l) en36 (.cons (.t rfl) .nil) (fun w I => of_ok _ l w (ha.keep0 I.keeps)) (fun ka _ => known_in ?_))
          refine hdn (all [3, 5] (by kernel_rfl) (by decide) (.cons rfl ?_ (.cons rfl ?_ .nil)))
          · refine (calln (X := KB) (fun _ => True) (fun x => eConfKnown.val x.k) (fun x => x.R k) en36 (.cons (.t rfl) .nil) (fun w I => of_ok _ k w (hb.keep0 I.keeps)) (fun kb _ => known_in ?_))
            refine hdn (al1 5 rfl ((alloc z84 (fun b16 => ?_))))
            refine hdn (al1 6 rfl ((stv ty84 (Lens.id _) (.t rfl) (.t rfl) ?_)))
            refine hdn (al1 7 rfl ((stv ty84 (Lens.id _) (.t rfl) (.t rfl) ?_)))
            refine hdn (ovr (pN (meetP (X := KB × KB × Nat × Nat) (_, _, _, _) trivial (by repeat first | exact Sub.nil | refine Sub.cons rfl ?_) (by repeat first | exact SubP.nil | refine SubP.cons (by repeat first | exact Rem.head | apply Rem.tail) ?_))))
          · refine (alloc z84 (fun b17 => ?_))
            refine hdn (al1 3 rfl ((calln (X := KB) (fun _ => True) (fun x => eConfKnown.val x.k) (fun x => x.R k) en36 (.cons (.t rfl) .nil) (fun w I => of_ok _ k w (hb.keep0 I.keeps)) (fun kb _ => known_in ?_))))
            refine hdn (al1 6 rfl ((stv ty84 (Lens.id _) (.t rfl) (.t rfl) ?_)))
            refine hdn (al1 7 rfl ((stv ty84 (Lens.id _) (.t rfl) (.t rfl) ?_)))
            refine hdn (ovr (pN (meetP (X := KB × KB × Nat × Nat) (_, _, _, _) trivial (by repeat first | exact Sub.nil | refine Sub.cons rfl ?_) (by repeat first | exact SubP.nil | refine SubP.cons (by repeat first | exact Rem.head | apply Rem.tail) ?_))))
        · refine (alloc z84 (fun b18 => ?_))
          refine hdn (al1 1 rfl ((calln (X := KB) (fun _ => True) (fun x => eConfKnown.val x.k) (fun x => x.R l) en36 (.cons (.t rfl) .nil) (fun w I => of_ok _ l w (ha.keep0 I.keeps)) (fun ka _ => known_in ?_))))
          refine hdn (al1 3 rfl ((calln (X := KB) (fun _ => True) (fun x => eConfKnown.val x.k) (fun x => x.R k) en36 (.cons (.t rfl) .nil) (fun w I => of_ok _ k w (hb.keep0 I.keeps)) (fun kb _ => known_in ?_))))
          refine hdn (al1 6 rfl ((stv ty84 (Lens.id _) (.t rfl) (.t rfl) ?_)))
          refine hdn (al1 7 rfl ((stv ty84 (Lens.id _) (.t rfl) (.t rfl) ?_)))
          refine hdn (ovr (pN (meetP (X := KB × KB × Nat × Nat) (_, _, _, _) trivial (by repeat first | exact Sub.nil | refine Sub.cons rfl ?_) (by repeat first | exact SubP.nil | refine SubP.cons (by repeat first | exact Rem.head | apply Rem.tail) ?_))))
      · refine (alloc z84 (fun b19 => ?_))
        refine hdn (all [1, 4] (by kernel_rfl) (by decide) (.cons rfl ?_ (.cons rfl ?_ .nil)))
        · refine (calln (X := KB) (fun _ => True) (fun x => eConfKnown.val x.k) (fun x => x.R l) en36 (.cons (.t rfl) .nil) (fun w I => of_ok _ l w (ha.keep0 I.keeps)) (fun ka _ => known_in ?_))
          refine hdn (all [3, 4] (by kernel_rfl) (by decide) (.cons rfl ?_ (.cons rfl ?_ .nil)))
          · refine (calln (X := KB) (fun _ => True) (fun x => eConfKnown.val x.k) (fun x => x.R k) en36 (.cons (.t rfl) .nil) (fun w I => of_ok _ k w (hb.keep0 I.keeps)) (fun kb _ => known_in ?_))
            refine hdn (al1 4 rfl ((alloc z84 (fun b20 => ?_))))
            refine hdn (al1 6 rfl ((stv ty84 (Lens.id _) (.t rfl) (.t rfl) ?_)))
            refine hdn (al1 7 rfl ((stv ty84 (Lens.id _) (.t rfl) (.t rfl) ?_)))
            refine hdn (ovr (pN (meetP (X := KB × KB × Nat × Nat) (_, _, _, _) trivial (by repeat first | exact Sub.nil | refine Sub.cons rfl ?_) (by repeat first | exact SubP.nil | refine SubP.cons (by repeat first | exact Rem.head | apply Rem.tail) ?_))))
          · refine (alloc z84 (fun b21 => ?_))
            refine hdn (al1 3 rfl ((calln (X := KB) (fun _ => True) (fun x => eConfKnown.val x.k) (fun x => x.R k) en36 (.cons (.t rfl) .nil) (fun w I => of_ok _ k w (hb.keep0 I.keeps)) (fun kb _ => known_in ?_))))
            refine hdn (al1 6 rfl ((stv ty84 (Lens.id _) (.t rfl) (.t rfl) ?_)))
            refine hdn (al1 7 rfl ((stv ty84 (Lens.id _) (.t rfl) (.t rfl) ?_)))
            refine hdn (ovr (pN (meetP (X := KB × KB × Nat × Nat) (_, _, _, _) trivial (by repeat first | exact Sub.nil | refine Sub.cons rfl ?_) (by repeat first | exact SubP.nil | refine SubP.cons (by repeat first | exact Rem.head | apply Rem.tail) ?_))))
        · refine (alloc z84 (fun b22 => ?_))
          refine hdn (al1 1 rfl ((calln (X := KB) (fun _ => True) (fun x => eConfKnown.val x.k) (fun x => x.R l) en36 (.cons (.t rfl) .nil) (fun w I => of_ok _ l w (ha.keep0 I.keeps)) (fun ka _ => known_in ?_))))
          refine hdn (al1 3 rfl ((calln (X := KB) (fun _ => True) (fun x => eConfKnown.val x.k) (fun x => x.R k) en36 (.cons (.t rfl) .nil) (fun w I => of_ok _ k w (hb.keep0 I.keeps)) (fun kb _ => known_in ?_))))
          refine hdn (al1 6 rfl ((stv ty84 (Lens.id _) (.t rfl) (.t rfl) ?_)))
          refine hdn (al1 7 rfl ((stv ty84 (Lens.id _) (.t rfl) (.t rfl) ?_)))
          refine hdn (ovr (pN (meetP (X := KB × KB × Nat × Nat) (_, _, _, _) trivial (by repeat first | exact Sub.nil | refine Sub.cons rfl ?_) (by repeat first | exact SubP.nil | refine SubP.cons (by repeat first | exact Rem.head | apply Rem.tail) ?_))))
    obtain ⟨ka, kb, p8, p9⟩ := x
    show Sat _ _ [(2, true, .pointer (some ⟨b1, 0, none⟩)), (3, true, .pointer (some ⟨b2, 0, none⟩)), (6, true, .pointer (some ⟨b3, 0, none⟩)), (7, true, .pointer (some ⟨b4, 0, none⟩)), (8, true, .pointer (some ⟨p8, 0, none⟩)), (9, true, .pointer (some ⟨p9, 0, none⟩))] [DR b4 b3 nilSl [], Var p8 eConfKnown ka.k 84, Var p9 eConfKnown kb.k 84, KnR ka l, KnR kb k, Var b2 eConf b 28, Var b1 eConf a 28]
    refine seq (region (cons (opv (Ev.fieldAddr (o := 0) (.t rfl) (by kernel_rfl)) ?_)))
    refine cons (opv (Ev.load (xv := b.ports) ty22 (.t rfl) (ptsVar (by repeat first | exact mH | apply mT | apply mA) SConf.l_ports)) ?_)
    refine cons (opv (Ev.fieldAddr (o := 0) (.t rfl) (by kernel_rfl)) ?_)
    refine cons (opv (Ev.ldv ty80 (.t rfl) SConfKnown.l_ports) ?_)
    refine cons (opv (Ev.makeFunc (f := 66) (.cons (.t rfl) .nil)) ?_)
    refine cons (callr (X := OV) (r := DR b4 b3 nilSl []) (r' := fun o2 => DR b4 b3 o2 ([] ++ goneL eqd (fun a => a) (portsM l) (fun x => chPort 1 x) k.ps)) (fun _ => True) (fun _ => .tuple #[]) (fun _ => by repeat first | exact Upd.head | apply Upd.tail | apply Upd.right) (by repeat first | exact mH | apply mT | apply mA) en64 (.cons (.t rfl) (.cons (.t rfl) (.cons .f (.cons (.t rfl) .nil)))) (fun w I => gone_3_3 65 66 [.pointer (some ⟨b4, 0, none⟩)] (fun a => a) (fun x => chPort 1 x) ka.b1 (portsM l) (DR b4 b3) nilSl _ _ k.ps w en65 en66 (at_mem (by repeat first | exact mH | apply mT | apply mA) w I) (fun w1 k1 => hb.ps.keep0 (I.but (by repeat first | exact Rem.head | apply Rem.tail) k1).keeps) (fun w1 k1 => by have I1 := I.but (by repeat first | exact Rem.head | apply Rem.tail) k1; exact (known_of (x := ka) (l := l) (by repeat first | exact mH | apply mT | apply mA) w1 I1).ps) (its_i_at _ _) (tell2_at b4 b3) (by simp only [List.length_append, List.length_nil]; omega)) (fun o1 _ => ?_))
    refine nil (pN (seq (drawR .head (by kernel_rfl) ?_)))
    refine tk 0 rfl (Ev.fieldAddr (o := 3) (.t rfl) (by kernel_rfl)) ?_
    refine tk 1 rfl (Ev.load (xv := b.meters) ty25 (.t rfl) (ptsVar (by repeat first | exact mH | apply mT | apply mA) SConf.l_meters)) ?_
    refine tk 2 rfl (Ev.fieldAddr (o := 3) (.t rfl) (by kernel_rfl)) ?_
    refine tk 3 rfl (Ev.load (xv := a.meters) ty25 (.t rfl) (ptsVar (by repeat first | exact mH | apply mT | apply mA) SConf.l_meters)) ?_
    refine tk 5 rfl (Ev.makeFunc (f := 70) (.cons (.t rfl) .nil)) ?_
    refine al1 4 rfl ((calln (X := Nat) (fun _ => True) (fun b => .map (some b)) (fun b => [MapR b eMeterConf iE (firstN SMeterConf.eqb (fun a => a) l.ms l.ms.length)]) en68 (.cons (.t rfl) (.cons .f .nil)) (fun w I => first_57_57 69 [] _ _ l.ms w en69 (ha.keep0 I.keeps).ms (its_m_at _ _)) (fun m7 _ => ?_)))
    refine hdn (al1 6 rfl ((callr (X := OV) (r := DR b4 b3 o1 ([] ++ goneL eqd (fun a => a) (portsM l) (fun x => chPort 1 x) k.ps)) (r' := fun o2 => DR b4 b3 o2 (([] ++ goneL eqd (fun a => a) (portsM l) (fun x => chPort 1 x) k.ps) ++ goneL SMeterConf.eqb (fun a => a) (firstN SMeterConf.eqb (fun a => a) l.ms l.ms.length) (fun x => chMeter 5 x) k.ms)) (fun _ => True) (fun _ => .tuple #[]) (fun _ => by repeat first | exact Upd.head | apply Upd.tail | apply Upd.right) (by repeat first | exact mH | apply mT | apply mA) en67 (.cons (.t rfl) (.cons (.t rfl) (.cons .f (.cons (.t rfl) .nil)))) (fun w I => gone_57_57 69 70 [.pointer (some ⟨b4, 0, none⟩)] (fun a => a) (fun x => chMeter 5 x) m7 (firstN SMeterConf.eqb (fun a => a) l.ms l.ms.length) (DR b4 b3) o1 _ _ k.ms w en69 en70 (at_mem (by repeat first | exact mH | apply mT | apply mA) w I) (fun w1 k1 => hb.ms.keep0 (I.but (by repeat first | exact Rem.head | apply Rem.tail) k1).keeps) (fun w1 k1 => by have I1 := I.but (by repeat first | exact Rem.head | apply Rem.tail) k1; exact mapAt_own (by repeat first | exact mH | apply mT | apply mA) w1 I1) (its_m_at _ _) (tell3_at b4 b3) (by simp only [List.length_append, List.length_nil]; have g1 := goneL_len eqd (fun a => a) (portsM l) (fun x => chPort 1 x) k.ps; omega)) (fun o2 _ => ?_))))
    refine hdn (ovr (pN (seq (drawR (.tail .head) (by kernel_rfl) ?_))))
    refine tk 0 rfl (Ev.fieldAddr (o := 4) (.t rfl) (by kernel_rfl)) ?_
    refine tk 1 rfl (Ev.load (xv := b.mirrors) ty26 (.t rfl) (ptsVar (by repeat first | exact mH | apply mT | apply mA) SConf.l_mirrors)) ?_
    refine tk 2 rfl (Ev.fieldAddr (o := 4) (.t rfl) (by kernel_rfl)) ?_
    refine tk 3 rfl (Ev.load (xv := a.mirrors) ty26 (.t rfl) (ptsVar (by repeat first | exact mH | apply mT | apply mA) SConf.l_mirrors)) ?_
    refine tk 5 rfl (Ev.makeFunc (f := 74) (.cons (.t rfl) .nil)) ?_
    refine al1 4 rfl ((calln (X := Nat) (fun _ => True) (fun b => .map (some b)) (fun b => [MapR b eMirrorConf iE (firstN SMirrorConf.eqb (fun a => a) l.xs l.xs.length)]) en72 (.cons (.t rfl) (.cons .f .nil)) (fun w I => first_59_59 73 [] _ _ l.xs w en73 (ha.keep0 I.keeps).xs (its_x_at _ _)) (fun m8 _ => ?_)))
    refine hdn (al1 6 rfl ((callr (X := OV) (r := DR b4 b3 o2 (([] ++ goneL eqd (fun a => a) (portsM l) (fun x => chPort 1 x) k.ps) ++ goneL SMeterConf.eqb (fun a => a) (firstN SMeterConf.eqb (fun a => a) l.ms l.ms.length) (fun x => chMeter 5 x) k.ms)) (r' := fun o2 => DR b4 b3 o2 ((([] ++ goneL eqd (fun a => a) (portsM l) (fun x => chPort 1 x) k.ps) ++ goneL SMeterConf.eqb (fun a => a) (firstN SMeterConf.eqb (fun a => a) l.ms l.ms.length) (fun x => chMeter 5 x) k.ms) ++ goneL SMirrorConf.eqb (fun a => a) (firstN SMirrorConf.eqb (fun a => a) l.xs l.xs.length) (fun x => chMirror 7 x) k.xs)) (fun _ => True) (fun _ => .tuple #[]) (fun _ => by repeat first | exact Upd.head | apply Upd.tail | apply Upd.right) (by repeat first | exact mH | apply mT | apply mA) en71 (.cons (.t rfl) (.cons (.t rfl) (.cons .f (.cons (.t rfl) .nil)))) (fun w I => gone_59_59 73 74 [.pointer (some ⟨b4, 0, none⟩)] (fun a => a) (fun x => chMirror 7 x) m8 (firstN SMirrorConf.eqb (fun a => a) l.xs l.xs.length) (DR b4 b3) o2 _ _ k.xs w en73 en74 (at_mem (by repeat first | exact mH | apply mT | apply mA) w I) (fun w1 k1 => hb.xs.keep0 (I.but (by repeat first | exact Rem.head | apply Rem.tail) k1).keeps) (fun w1 k1 => by have I1 := I.but (by repeat first | exact Rem.head | apply Rem.tail) k1; exact mapAt_own (by repeat first | exact mH | apply mT | apply mA) w1 I1) (its_x_at _ _) (tell4_at b4 b3) (by simp only [List.length_append, List.length_nil]; have g1 := goneL_len eqd (fun a => a) (portsM l) (fun x => chPort 1 x) k.ps; have g2 := goneL_len SMeterConf.eqb (fun a => a) (firstN SMeterConf.eqb (fun a => a) l.ms l.ms.length) (fun x => chMeter 5 x) k.ms; omega)) (fun o3 _ => ?_))))
    refine hdn (ovr (pN (seq (drawR (.tail (.tail .head)) (by kernel_rfl) ?_))))
    refine tk 0 rfl (Ev.fieldAddr (o := 1) (.t rfl) (by kernel_rfl)) ?_
    refine tk 1 rfl (Ev.load (xv := b.routes) ty23 (.t rfl) (ptsVar (by repeat first | exact mH | apply mT | apply mA) SConf.l_routes)) ?_
    refine tk 2 rfl (Ev.fieldAddr (o := 1) (.t rfl) (by kernel_rfl)) ?_
    refine tk 3 rfl (Ev.load (xv := a.routes) ty23 (.t rfl) (ptsVar (by repeat first | exact mH | apply mT | apply mA) SConf.l_routes)) ?_
    refine tk 5 rfl (Ev.makeFunc (f := 78) (.cons (.t rfl) .nil)) ?_
    refine al1 4 rfl ((calln (X := Nat) (fun _ => True) (fun b => .map (some b)) (fun b => [MapR b eRoute iE (firstN SRoute.eqb (fun a => a) l.rs l.rs.length)]) en76 (.cons (.t rfl) (.cons .f .nil)) (fun w I => first_52_52 77 [] _ _ l.rs w en77 (ha.keep0 I.keeps).rs (its_r_at _ _)) (fun m9 _ => ?_)))
    refine hdn (al1 6 rfl ((callr (X := OV) (r := DR b4 b3 o3 ((([] ++ goneL eqd (fun a => a) (portsM l) (fun x => chPort 1 x) k.ps) ++ goneL SMeterConf.eqb (fun a => a) (firstN SMeterConf.eqb (fun a => a) l.ms l.ms.length) (fun x => chMeter 5 x) k.ms) ++ goneL SMirrorConf.eqb (fun a => a) (firstN SMirrorConf.eqb (fun a => a) l.xs l.xs.length) (fun x => chMirror 7 x) k.xs)) (r' := fun o2 => DR b4 b3 o2 (((([] ++ goneL eqd (fun a => a) (portsM l) (fun x => chPort 1 x) k.ps) ++ goneL SMeterConf.eqb (fun a => a) (firstN SMeterConf.eqb (fun a => a) l.ms l.ms.length) (fun x => chMeter 5 x) k.ms) ++ goneL SMirrorConf.eqb (fun a => a) (firstN SMirrorConf.eqb (fun a => a) l.xs l.xs.length) (fun x => chMirror 7 x) k.xs) ++ goneL SRoute.eqb (fun a => a) (firstN SRoute.eqb (fun a => a) l.rs l.rs.length) (fun x => chRoute 3 x) k.rs)) (fun _ => True) (fun _ => .tuple #[]) (fun _ => by repeat first | exact Upd.head | apply Upd.tail | apply Upd.right) (by repeat first | exact mH | apply mT | apply mA) en75 (.cons (.t rfl) (.cons (.t rfl) (.cons .f (.cons (.t rfl) .nil)))) (fun w I => gone_52_52 77 78 [.pointer (some ⟨b4, 0, none⟩)] (fun a => a) (fun x => chRoute 3 x) m9 (firstN SRoute.eqb (fun a => a) l.rs l.rs.length) (DR b4 b3) o3 _ _ k.rs w en77 en78 (at_mem (by repeat first | exact mH | apply mT | apply mA) w I) (fun w1 k1 => hb.rs.keep0 (I.but (by repeat first | exact Rem.head | apply Rem.tail) k1).keeps) (fun w1 k1 => by have I1 := I.but (by repeat first | exact Rem.head | apply Rem.tail) k1; exact mapAt_own (by repeat first | exact mH | apply mT | apply mA) w1 I1) (its_r_at _ _) (tell5_at b4 b3) (by simp only [List.length_append, List.length_nil]; have g1 := goneL_len eqd (fun a => a) (portsM l) (fun x => chPort 1 x) k.ps; have g2 := goneL_len SMeterConf.eqb (fun a => a) (firstN SMeterConf.eqb (fun a => a) l.ms l.ms.length) (fun x => chMeter 5 x) k.ms; have g3 := goneL_len SMirrorConf.eqb (fun a => a) (firstN SMirrorConf.eqb (fun a => a) l.xs l.xs.length) (fun x => chMirror 7 x) k.xs; omega)) (fun o4 _ => ?_))))
    refine hdn (ovr (pN (cut (X := OV × OV) (fun x : OV × OV => True) (fun x : OV × OV => [(2, true, .pointer (some ⟨b1, 0, none⟩)), (3, true, .pointer (some ⟨b2, 0, none⟩)), (6, true, .pointer (some ⟨b3, 0, none⟩)), (7, true, .pointer (some ⟨b4, 0, none⟩)), (8, true, .pointer (some ⟨p8, 0, none⟩)), (9, true, .pointer (some ⟨p9, 0, none⟩))]) (fun x : OV × OV => [OR b3 x.1 ((((([] ++ goneL eqd (fun a => a) (portsM l) (fun x => chPort 1 x) k.ps) ++ goneL SMeterConf.eqb (fun a => a) (firstN SMeterConf.eqb (fun a => a) l.ms l.ms.length) (fun x => chMeter 5 x) k.ms) ++ goneL SMirrorConf.eqb (fun a => a) (firstN SMirrorConf.eqb (fun a => a) l.xs l.xs.length) (fun x => chMirror 7 x) k.xs) ++ goneL SRoute.eqb (fun a => a) (firstN SRoute.eqb (fun a => a) l.rs l.rs.length) (fun x => chRoute 3 x) k.rs) ++ (if l.us = k.us then [] else [chRules x.2])), Var b4 (ovE nilFn) (clo 63 [.pointer (some ⟨b3, 0, none⟩)]) 113, OwnS x.2.v eRule (if l.us = k.us then [] else k.us) 76, Var p8 eConfKnown ka.k 84, Var p9 eConfKnown kb.k 84, KnR ka l, KnR kb k, Var b2 eConf b 28, Var b1 eConf a 28]) ?_ (fun x hx => ?_))))
    · refine seq (region (cons (opv (Ev.fieldAddr (o := 2) (.t rfl) (by kernel_rfl)) ?_)))
      refine cons (opv (Ev.load (xv := a.rules) ty24 (.t rfl) (ptsVar (by repeat first | exact mH | apply mT | apply mA) SConf.l_rules)) ?_)
      refine cons (opv (Ev.fieldAddr (o := 2) (.t rfl) (by kernel_rfl)) ?_)
      refine cons (opv (Ev.load (xv := b.rules) ty24 (.t rfl) (ptsVar (by repeat first | exact mH | apply mT | apply mA) SConf.l_rules)) ?_)
      refine cons (callv en54 (.cons (.t rfl) (.cons (.t rfl) .nil)) (fun w I => equal_76 _ _ _ _ w (ha.keep0 I.keeps).us (hb.keep0 I.keeps).us) ?_)
      refine cons (opv (Ev.not (.t rfl)) ?_)
      refine nil (pN ?_)
      first | refine condD rfl (fun h1 => ?_) (fun h1 => ?_) | refine cond rfl (fun h1 => ?_) (fun h1 => ?_)
      · try simp only [nb] at h1
        refine sepOut (by repeat first | exact Rem.head | apply Rem.tail) ?_
        refine drawR (.tail .head) (by kernel_rfl) ?_
        refine tk 0 rfl (Ev.ldv ty113 (.t rfl) (Lens.id _)) ?_
        refine tk 1 rfl (Ev.fieldAddr (o := 2) (.t rfl) (by kernel_rfl)) ?_
        refine tk 2 rfl (Ev.load (xv := b.rules) ty24 (.t rfl) (ptsVar (by repeat first | exact mH | apply mT | apply mA) SConf.l_rules)) ?_
        refine al1 3 rfl ((callo en50 (.cons (.t rfl) .nil) (fun w I => clone_76 _ _ w (hb.keep0 I.keeps).us (by omega)) (fun rvx => ?_)))
        refine hdn (tk 4 rfl (Ev.buildS (fs := _) (places := [(0, 1), (1, 1), (2, 19), (21, 4), (25, 3), (28, 1), (29, 1)]) z61 rfl Tryz.underlying61 (by kernel_rfl) (.cons (.c (v := I 9) rfl) (.cons (.t rfl) .nil)) (Fills.cons SChange.l_kind rfl (Fills.cons SChange.l_rules rfl Fills.nil))) ?_)
        refine al1 5 rfl ((callcr (X := OV) (r := OR b3 o4 (((([] ++ goneL eqd (fun a => a) (portsM l) (fun x => chPort 1 x) k.ps) ++ goneL SMeterConf.eqb (fun a => a) (firstN SMeterConf.eqb (fun a => a) l.ms l.ms.length) (fun x => chMeter 5 x) k.ms) ++ goneL SMirrorConf.eqb (fun a => a) (firstN SMirrorConf.eqb (fun a => a) l.xs l.xs.length) (fun x => chMirror 7 x) k.xs) ++ goneL SRoute.eqb (fun a => a) (firstN SRoute.eqb (fun a => a) l.rs l.rs.length) (fun x => chRoute 3 x) k.rs)) (r' := fun o2 => OR b3 o2 ((((([] ++ goneL eqd (fun a => a) (portsM l) (fun x => chPort 1 x) k.ps) ++ goneL SMeterConf.eqb (fun a => a) (firstN SMeterConf.eqb (fun a => a) l.ms l.ms.length) (fun x => chMeter 5 x) k.ms) ++ goneL SMirrorConf.eqb (fun a => a) (firstN SMirrorConf.eqb (fun a => a) l.xs l.xs.length) (fun x => chMirror 7 x) k.xs) ++ goneL SRoute.eqb (fun a => a) (firstN SRoute.eqb (fun a => a) l.rs l.rs.length) (fun x => chRoute 3 x) k.rs) ++ [chRules rvx])) (fun _ => True) (fun _ => .tuple #[]) (fun _ => by repeat first | exact Upd.head | apply Upd.tail | apply Upd.right) (.t rfl) en63 (.cons (.t rfl) .nil) (fun w I => put_ok (chRules rvx) b3 o4 _ w (at_mem (by repeat first | exact mH | apply mT | apply mA) w I) (by simp only [List.length_append, List.length_nil]; have g1 := goneL_len eqd (fun a => a) (portsM l) (fun x => chPort 1 x) k.ps; have g2 := goneL_len SMeterConf.eqb (fun a => a) (firstN SMeterConf.eqb (fun a => a) l.ms l.ms.length) (fun x => chMeter 5 x) k.ms; have g3 := goneL_len SMirrorConf.eqb (fun a => a) (firstN SMirrorConf.eqb (fun a => a) l.xs l.xs.length) (fun x => chMirror 7 x) k.xs; have g4 := goneL_len SRoute.eqb (fun a => a) (firstN SRoute.eqb (fun a => a) l.rs l.rs.length) (fun x => chRoute 3 x) k.rs; omega)) (fun o5 _ => ?_)))
        refine hdn (ovr (pN (meetP (X := OV × OV) (_, rvx) trivial (by repeat first | exact Sub.nil | refine Sub.cons rfl ?_) (by (first | rw [if_pos h1, if_pos h1, List.append_nil] | rw [if_neg h1, if_neg h1]); repeat first | exact SubP.nil | refine SubP.cons (by repeat first | exact Rem.head | apply Rem.tail) ?_))))
      · try simp only [nb] at h1
        refine sepOut (by repeat first | exact Rem.head | apply Rem.tail) ?_
        refine takeNil eRule 76 ?_
        refine skip (pN (meetP (X := OV × OV) (_, nilSl) trivial (by repeat first | exact Sub.nil | refine Sub.cons rfl ?_) (by (first | rw [if_pos h1, if_pos h1, List.append_nil] | rw [if_neg h1, if_neg h1]); repeat first | exact SubP.nil | refine SubP.cons (by repeat first | exact Rem.head | apply Rem.tail) ?_)))
    obtain ⟨q1, rv⟩ := x
    show Sat _ _ [(2, true, .pointer (some ⟨b1, 0, none⟩)), (3, true, .pointer (some ⟨b2, 0, none⟩)), (6, true, .pointer (some ⟨b3, 0, none⟩)), (7, true, .pointer (some ⟨b4, 0, none⟩)), (8, true, .pointer (some ⟨p8, 0, none⟩)), (9, true, .pointer (some ⟨p9, 0, none⟩))] [OR b3 q1 ((((([] ++ goneL eqd (fun a => a) (portsM l) (fun x => chPort 1 x) k.ps) ++ goneL SMeterConf.eqb (fun a => a) (firstN SMeterConf.eqb (fun a => a) l.ms l.ms.length) (fun x => chMeter 5 x) k.ms) ++ goneL SMirrorConf.eqb (fun a => a) (firstN SMirrorConf.eqb (fun a => a) l.xs l.xs.length) (fun x => chMirror 7 x) k.xs) ++ goneL SRoute.eqb (fun a => a) (firstN SRoute.eqb (fun a => a) l.rs l.rs.length) (fun x => chRoute 3 x) k.rs) ++ (if l.us = k.us then [] else [chRules rv])), Var b4 (ovE nilFn) (clo 63 [.pointer (some ⟨b3, 0, none⟩)]) 113, OwnS rv.v eRule (if l.us = k.us then [] else k.us) 76, Var p8 eConfKnown ka.k 84, Var p9 eConfKnown kb.k 84, KnR ka l, KnR kb k, Var b2 eConf b 28, Var b1 eConf a 28]
    refine cut (X := OV) (fun x : OV => True) (fun x : OV => [(2, true, .pointer (some ⟨b1, 0, none⟩)), (3, true, .pointer (some ⟨b2, 0, none⟩)), (6, true, .pointer (some ⟨b3, 0, none⟩)), (7, true, .pointer (some ⟨b4, 0, none⟩)), (8, true, .pointer (some ⟨p8, 0, none⟩)), (9, true, .pointer (some ⟨p9, 0, none⟩))]) (fun x : OV => [OR b3 x (((((([] ++ goneL eqd (fun a => a) (portsM l) (fun x => chPort 1 x) k.ps) ++ goneL SMeterConf.eqb (fun a => a) (firstN SMeterConf.eqb (fun a => a) l.ms l.ms.length) (fun x => chMeter 5 x) k.ms) ++ goneL SMirrorConf.eqb (fun a => a) (firstN SMirrorConf.eqb (fun a => a) l.xs l.xs.length) (fun x => chMirror 7 x) k.xs) ++ goneL SRoute.eqb (fun a => a) (firstN SRoute.eqb (fun a => a) l.rs l.rs.length) (fun x => chRoute 3 x) k.rs) ++ (if l.us = k.us then [] else [chRules rv])) ++ (if a.default = b.default then [] else [chDefault b.default])), Var b4 (ovE nilFn) (clo 63 [.pointer (some ⟨b3, 0, none⟩)]) 113, OwnS rv.v eRule (if l.us = k.us then [] else k.us) 76, Var p8 eConfKnown ka.k 84, Var p9 eConfKnown kb.k 84, KnR ka l, KnR kb k, Var b2 eConf b 28, Var b1 eConf a 28]) ?_ (fun x hx => ?_)
    · refine seq (region (cons (opv (Ev.fieldAddr (o := 5) (.t rfl) (by kernel_rfl)) ?_)))
      refine cons (opv (Ev.load (xv := a.default) ty3 (.t rfl) (ptsVar (by repeat first | exact mH | apply mT | apply mA) SConf.l_default)) ?_)
      refine cons (opv (Ev.fieldAddr (o := 5) (.t rfl) (by kernel_rfl)) ?_)
      refine cons (opv (Ev.load (xv := b.default) ty3 (.t rfl) (ptsVar (by repeat first | exact mH | apply mT | apply mA) SConf.l_default)) ?_)
      refine cons (opv (Ev.neq_i (.t rfl) (.t rfl)) ?_)
      refine nil (pN ?_)
      first | refine condD rfl (fun h2 => ?_) (fun h2 => ?_) | refine cond rfl (fun h2 => ?_) (fun h2 => ?_)
      · try simp only [nb] at h2
        refine region (cons (opv (Ev.ldv ty113 (.t rfl) (Lens.id _)) ?_))
        refine cons (opv (Ev.fieldAddr (o := 5) (.t rfl) (by kernel_rfl)) ?_)
        refine cons (opv (Ev.load (xv := b.default) ty3 (.t rfl) (ptsVar (by repeat first | exact mH | apply mT | apply mA) SConf.l_default)) ?_)
        refine cons (opv (Ev.buildS (fs := _) (places := [(0, 1), (1, 1), (2, 19), (21, 4), (25, 3), (28, 1), (29, 1)]) z61 rfl Tryz.underlying61 (by kernel_rfl) (.cons (.c (v := I 10) rfl) (.cons (.t rfl) .nil)) (Fills.cons SChange.l_kind rfl (Fills.cons SChange.l_default rfl Fills.nil))) ?_)
        refine cons (callcr (X := OV) (r := OR b3 q1 ((((([] ++ goneL eqd (fun a => a) (portsM l) (fun x => chPort 1 x) k.ps) ++ goneL SMeterConf.eqb (fun a => a) (firstN SMeterConf.eqb (fun a => a) l.ms l.ms.length) (fun x => chMeter 5 x) k.ms) ++ goneL SMirrorConf.eqb (fun a => a) (firstN SMirrorConf.eqb (fun a => a) l.xs l.xs.length) (fun x => chMirror 7 x) k.xs) ++ goneL SRoute.eqb (fun a => a) (firstN SRoute.eqb (fun a => a) l.rs l.rs.length) (fun x => chRoute 3 x) k.rs) ++ (if l.us = k.us then [] else [chRules rv]))) (r' := fun o2 => OR b3 o2 (((((([] ++ goneL eqd (fun a => a) (portsM l) (fun x => chPort 1 x) k.ps) ++ goneL SMeterConf.eqb (fun a => a) (firstN SMeterConf.eqb (fun a => a) l.ms l.ms.length) (fun x => chMeter 5 x) k.ms) ++ goneL SMirrorConf.eqb (fun a => a) (firstN SMirrorConf.eqb (fun a => a) l.xs l.xs.length) (fun x => chMirror 7 x) k.xs) ++ goneL SRoute.eqb (fun a => a) (firstN SRoute.eqb (fun a => a) l.rs l.rs.length) (fun x => chRoute 3 x) k.rs) ++ (if l.us = k.us then [] else [chRules rv])) ++ [chDefault b.default])) (fun _ => True) (fun _ => .tuple #[]) (fun _ => by repeat first | exact Upd.head | apply Upd.tail | apply Upd.right) (.t rfl) en63 (.cons (.t rfl) .nil) (fun w I => put_ok (chDefault b.default) b3 q1 _ w (at_mem (by repeat first | exact mH | apply mT | apply mA) w I) (by simp only [List.length_append, List.length_nil]; have g1 := goneL_len eqd (fun a => a) (portsM l) (fun x => chPort 1 x) k.ps; have g2 := goneL_len SMeterConf.eqb (fun a => a) (firstN SMeterConf.eqb (fun a => a) l.ms l.ms.length) (fun x => chMeter 5 x) k.ms; have g3 := goneL_len SMirrorConf.eqb (fun a => a) (firstN SMirrorConf.eqb (fun a => a) l.xs l.xs.length) (fun x => chMirror 7 x) k.xs; have g4 := goneL_len SRoute.eqb (fun a => a) (firstN SRoute.eqb (fun a => a) l.rs l.rs.length) (fun x => chRoute 3 x) k.rs; have g5 := ite_len (p := l.us = k.us) (chRules rv); omega)) (fun o6 _ => ?_))
        refine nil (pN (meetP (X := OV) (_) trivial (by repeat first | exact Sub.nil | refine Sub.cons rfl ?_) (by (first | rw [if_pos h2, List.append_nil] | rw [if_neg h2]); repeat first | exact SubP.nil | refine SubP.cons (by repeat first | exact Rem.head | apply Rem.tail) ?_)))
      · try simp only [nb] at h2
        refine skip (pN (meetP (X := OV) (_) trivial (by repeat first | exact Sub.nil | refine Sub.cons rfl ?_) (by (first | rw [if_pos h2, List.append_nil] | rw [if_neg h2]); repeat first | exact SubP.nil | refine SubP.cons (by repeat first | exact Rem.head | apply Rem.tail) ?_)))
    obtain ⟨q2, rfl⟩ : ∃ y, y = x := ⟨x, rfl⟩
    show Sat _ _ [(2, true, .pointer (some ⟨b1, 0, none⟩)), (3, true, .pointer (some ⟨b2, 0, none⟩)), (6, true, .pointer (some ⟨b3, 0, none⟩)), (7, true, .pointer (some ⟨b4, 0, none⟩)), (8, true, .pointer (some ⟨p8, 0, none⟩)), (9, true, .pointer (some ⟨p9, 0, none⟩))] [OR b3 q2 (((((([] ++ goneL eqd (fun a => a) (portsM l) (fun x => chPort 1 x) k.ps) ++ goneL SMeterConf.eqb (fun a => a) (firstN SMeterConf.eqb (fun a => a) l.ms l.ms.length) (fun x => chMeter 5 x) k.ms) ++ goneL SMirrorConf.eqb (fun a => a) (firstN SMirrorConf.eqb (fun a => a) l.xs l.xs.length) (fun x => chMirror 7 x) k.xs) ++ goneL SRoute.eqb (fun a => a) (firstN SRoute.eqb (fun a => a) l.rs l.rs.length) (fun x => chRoute 3 x) k.rs) ++ (if l.us = k.us then [] else [chRules rv])) ++ (if a.default = b.default then [] else [chDefault b.default])), Var b4 (ovE nilFn) (clo 63 [.pointer (some ⟨b3, 0, none⟩)]) 113, OwnS rv.v eRule (if l.us = k.us then [] else k.us) 76, Var p8 eConfKnown ka.k 84, Var p9 eConfKnown kb.k 84, KnR ka l, KnR kb k, Var b2 eConf b 28, Var b1 eConf a 28]
    refine seq (sepIn (r := Var b4 (ovE nilFn) (clo 63 [.pointer (some ⟨b3, 0, none⟩)]) 113) (s := OR b3 q2 (((((([] ++ goneL eqd (fun a => a) (portsM l) (fun x => chPort 1 x) k.ps) ++ goneL SMeterConf.eqb (fun a => a) (firstN SMeterConf.eqb (fun a => a) l.ms l.ms.length) (fun x => chMeter 5 x) k.ms) ++ goneL SMirrorConf.eqb (fun a => a) (firstN SMirrorConf.eqb (fun a => a) l.xs l.xs.length) (fun x => chMirror 7 x) k.xs) ++ goneL SRoute.eqb (fun a => a) (firstN SRoute.eqb (fun a => a) l.rs l.rs.length) (fun x => chRoute 3 x) k.rs) ++ (if l.us = k.us then [] else [chRules rv])) ++ (if a.default = b.default then [] else [chDefault b.default]))) (Rem.tail Rem.head) Rem.head ?_)
    refine region (cons (opv (Ev.fieldAddr (o := 1) (.t rfl) (by kernel_rfl)) ?_))
    refine cons (opv (Ev.load (xv := a.routes) ty23 (.t rfl) (ptsVar (by repeat first | exact mH | apply mT | apply mA) SConf.l_routes)) ?_)
    refine cons (opv (Ev.fieldAddr (o := 1) (.t rfl) (by kernel_rfl)) ?_)
    refine cons (opv (Ev.ldv ty81 (.t rfl) SConfKnown.l_routes) ?_)
    refine cons (opv (Ev.makeFunc (f := 81) (.cons (.t rfl) .nil)) ?_)
    refine cons (callr (X := OV) (r := DR b4 b3 q2 (((((([] ++ goneL eqd (fun a => a) (portsM l) (fun x => chPort 1 x) k.ps) ++ goneL SMeterConf.eqb (fun a => a) (firstN SMeterConf.eqb (fun a => a) l.ms l.ms.length) (fun x => chMeter 5 x) k.ms) ++ goneL SMirrorConf.eqb (fun a => a) (firstN SMirrorConf.eqb (fun a => a) l.xs l.xs.length) (fun x => chMirror 7 x) k.xs) ++ goneL SRoute.eqb (fun a => a) (firstN SRoute.eqb (fun a => a) l.rs l.rs.length) (fun x => chRoute 3 x) k.rs) ++ (if l.us = k.us then [] else [chRules rv])) ++ (if a.default = b.default then [] else [chDefault b.default]))) (r' := fun o2 => DR b4 b3 o2 ((((((([] ++ goneL eqd (fun a => a) (portsM l) (fun x => chPort 1 x) k.ps) ++ goneL SMeterConf.eqb (fun a => a) (firstN SMeterConf.eqb (fun a => a) l.ms l.ms.length) (fun x => chMeter 5 x) k.ms) ++ goneL SMirrorConf.eqb (fun a => a) (firstN SMirrorConf.eqb (fun a => a) l.xs l.xs.length) (fun x => chMirror 7 x) k.xs) ++ goneL SRoute.eqb (fun a => a) (firstN SRoute.eqb (fun a => a) l.rs l.rs.length) (fun x => chRoute 3 x) k.rs) ++ (if l.us = k.us then [] else [chRules rv])) ++ (if a.default = b.default then [] else [chDefault b.default])) ++ goneL SPrefix.eqb (fun a => a.to_) (routesM k) (fun x => chRoute 4 (onlyR x)) l.rs)) (fun _ => True) (fun _ => .tuple #[]) (fun _ => by repeat first | exact Upd.head | apply Upd.tail | apply Upd.right) (by repeat first | exact mH | apply mT | apply mA) en79 (.cons (.t rfl) (.cons (.t rfl) (.cons .f (.cons (.t rfl) .nil)))) (fun w I => gone_50_52 80 81 [.pointer (some ⟨b4, 0, none⟩)] (fun a => a.to_) (fun x => chRoute 4 (onlyR x)) kb.b2 (routesM k) (DR b4 b3) q2 _ _ l.rs w en80 en81 (at_mem (by repeat first | exact mH | apply mT | apply mA) w I) (fun w1 k1 => ha.rs.keep0 (I.but (by repeat first | exact Rem.head | apply Rem.tail) k1).keeps) (fun w1 k1 => by have I1 := I.but (by repeat first | exact Rem.head | apply Rem.tail) k1; exact (known_of (x := kb) (l := k) (by repeat first | exact mH | apply mT | apply mA) w1 I1).rs) (key6_at _ _) (tell7_at b4 b3) (by simp only [List.length_append, List.length_nil]; have g1 := goneL_len eqd (fun a => a) (portsM l) (fun x => chPort 1 x) k.ps; have g2 := goneL_len SMeterConf.eqb (fun a => a) (firstN SMeterConf.eqb (fun a => a) l.ms l.ms.length) (fun x => chMeter 5 x) k.ms; have g3 := goneL_len SMirrorConf.eqb (fun a => a) (firstN SMirrorConf.eqb (fun a => a) l.xs l.xs.length) (fun x => chMirror 7 x) k.xs; have g4 := goneL_len SRoute.eqb (fun a => a) (firstN SRoute.eqb (fun a => a) l.rs l.rs.length) (fun x => chRoute 3 x) k.rs; have g5 := ite_len (p := l.us = k.us) (chRules rv); have g6 := ite_len (p := a.default = b.default) (chDefault b.default); omega)) (fun o7 _ => ?_))
    refine nil (pN (seq (region (cons (opv (Ev.fieldAddr (o := 3) (.t rfl) (by kernel_rfl)) ?_)))))
    refine cons (opv (Ev.load (xv := a.meters) ty25 (.t rfl) (ptsVar (by repeat first | exact mH | apply mT | apply mA) SConf.l_meters)) ?_)
    refine cons (opv (Ev.fieldAddr (o := 3) (.t rfl) (by kernel_rfl)) ?_)
    refine cons (opv (Ev.ldv ty82 (.t rfl) SConfKnown.l_meters) ?_)
    refine cons (opv (Ev.makeFunc (f := 84) (.cons (.t rfl) .nil)) ?_)
    refine cons (callr (X := OV) (r := DR b4 b3 o7 ((((((([] ++ goneL eqd (fun a => a) (portsM l) (fun x => chPort 1 x) k.ps) ++ goneL SMeterConf.eqb (fun a => a) (firstN SMeterConf.eqb (fun a => a) l.ms l.ms.length) (fun x => chMeter 5 x) k.ms) ++ goneL SMirrorConf.eqb (fun a => a) (firstN SMirrorConf.eqb (fun a => a) l.xs l.xs.length) (fun x => chMirror 7 x) k.xs) ++ goneL SRoute.eqb (fun a => a) (firstN SRoute.eqb (fun a => a) l.rs l.rs.length) (fun x => chRoute 3 x) k.rs) ++ (if l.us = k.us then [] else [chRules rv])) ++ (if a.default = b.default then [] else [chDefault b.default])) ++ goneL SPrefix.eqb (fun a => a.to_) (routesM k) (fun x => chRoute 4 (onlyR x)) l.rs)) (r' := fun o2 => DR b4 b3 o2 (((((((([] ++ goneL eqd (fun a => a) (portsM l) (fun x => chPort 1 x) k.ps) ++ goneL SMeterConf.eqb (fun a => a) (firstN SMeterConf.eqb (fun a => a) l.ms l.ms.length) (fun x => chMeter 5 x) k.ms) ++ goneL SMirrorConf.eqb (fun a => a) (firstN SMirrorConf.eqb (fun a => a) l.xs l.xs.length) (fun x => chMirror 7 x) k.xs) ++ goneL SRoute.eqb (fun a => a) (firstN SRoute.eqb (fun a => a) l.rs l.rs.length) (fun x => chRoute 3 x) k.rs) ++ (if l.us = k.us then [] else [chRules rv])) ++ (if a.default = b.default then [] else [chDefault b.default])) ++ goneL SPrefix.eqb (fun a => a.to_) (routesM k) (fun x => chRoute 4 (onlyR x)) l.rs) ++ goneL eqs (fun a => a.name) (metersM k) (fun x => chMeter 6 (onlyM x)) l.ms)) (fun _ => True) (fun _ => .tuple #[]) (fun _ => by repeat first | exact Upd.head | apply Upd.tail | apply Upd.right) (by repeat first | exact mH | apply mT | apply mA) en82 (.cons (.t rfl) (.cons (.t rfl) (.cons .f (.cons (.t rfl) .nil)))) (fun w I => gone_9_57 83 84 [.pointer (some ⟨b4, 0, none⟩)] (fun a => a.name) (fun x => chMeter 6 (onlyM x)) kb.b4 (metersM k) (DR b4 b3) o7 _ _ l.ms w en83 en84 (at_mem (by repeat first | exact mH | apply mT | apply mA) w I) (fun w1 k1 => ha.ms.keep0 (I.but (by repeat first | exact Rem.head | apply Rem.tail) k1).keeps) (fun w1 k1 => by have I1 := I.but (by repeat first | exact Rem.head | apply Rem.tail) k1; exact (known_of (x := kb) (l := k) (by repeat first | exact mH | apply mT | apply mA) w1 I1).ms) (key8_at _ _) (tell9_at b4 b3) (by simp only [List.length_append, List.length_nil]; have g1 := goneL_len eqd (fun a => a) (portsM l) (fun x => chPort 1 x) k.ps; have g2 := goneL_len SMeterConf.eqb (fun a => a) (firstN SMeterConf.eqb (fun a => a) l.ms l.ms.length) (fun x => chMeter 5 x) k.ms; have g3 := goneL_len SMirrorConf.eqb (fun a => a) (firstN SMirrorConf.eqb (fun a => a) l.xs l.xs.length) (fun x => chMirror 7 x) k.xs; have g4 := goneL_len SRoute.eqb (fun a => a) (firstN SRoute.eqb (fun a => a) l.rs l.rs.length) (fun x => chRoute 3 x) k.rs; have g5 := ite_len (p := l.us = k.us) (chRules rv); have g6 := ite_len (p := a.default = b.default) (chDefault b.default); have g7 := goneL_len SPrefix.eqb (fun a => a.to_) (routesM k) (fun x => chRoute 4 (onlyR x)) l.rs; omega)) (fun o8 _ => ?_))
    refine nil (pN (seq (region (cons (opv (Ev.fieldAddr (o := 4) (.t rfl) (by kernel_rfl)) ?_)))))
    refine cons (opv (Ev.load (xv := a.mirrors) ty26 (.t rfl) (ptsVar (by repeat first | exact mH | apply mT | apply mA) SConf.l_mirrors)) ?_)
    refine cons (opv (Ev.fieldAddr (o := 4) (.t rfl) (by kernel_rfl)) ?_)
    refine cons (opv (Ev.ldv ty82 (.t rfl) SConfKnown.l_mirrors) ?_)
    refine cons (opv (Ev.makeFunc (f := 87) (.cons (.t rfl) .nil)) ?_)
    refine cons (callr (X := OV) (r := DR b4 b3 o8 (((((((([] ++ goneL eqd (fun a => a) (portsM l) (fun x => chPort 1 x) k.ps) ++ goneL SMeterConf.eqb (fun a => a) (firstN SMeterConf.eqb (fun a => a) l.ms l.ms.length) (fun x => chMeter 5 x) k.ms) ++ goneL SMirrorConf.eqb (fun a => a) (firstN SMirrorConf.eqb (fun a => a) l.xs l.xs.length) (fun x => chMirror 7 x) k.xs) ++ goneL SRoute.eqb (fun a => a) (firstN SRoute.eqb (fun a => a) l.rs l.rs.length) (fun x => chRoute 3 x) k.rs) ++ (if l.us = k.us then [] else [chRules rv])) ++ (if a.default = b.default then [] else [chDefault b.default])) ++ goneL SPrefix.eqb (fun a => a.to_) (routesM k) (fun x => chRoute 4 (onlyR x)) l.rs) ++ goneL eqs (fun a => a.name) (metersM k) (fun x => chMeter 6 (onlyM x)) l.ms)) (r' := fun o2 => DR b4 b3 o2 ((((((((([] ++ goneL eqd (fun a => a) (portsM l) (fun x => chPort 1 x) k.ps) ++ goneL SMeterConf.eqb (fun a => a) (firstN SMeterConf.eqb (fun a => a) l.ms l.ms.length) (fun x => chMeter 5 x) k.ms) ++ goneL SMirrorConf.eqb (fun a => a) (firstN SMirrorConf.eqb (fun a => a) l.xs l.xs.length) (fun x => chMirror 7 x) k.xs) ++ goneL SRoute.eqb (fun a => a) (firstN SRoute.eqb (fun a => a) l.rs l.rs.length) (fun x => chRoute 3 x) k.rs) ++ (if l.us = k.us then [] else [chRules rv])) ++ (if a.default = b.default then [] else [chDefault b.default])) ++ goneL SPrefix.eqb (fun a => a.to_) (routesM k) (fun x => chRoute 4 (onlyR x)) l.rs) ++ goneL eqs (fun a => a.name) (metersM k) (fun x => chMeter 6 (onlyM x)) l.ms) ++ goneL eqs (fun a => a.name) (mirrorsM k) (fun x => chMirror 8 (onlyX x)) l.xs)) (fun _ => True) (fun _ => .tuple #[]) (fun _ => by repeat first | exact Upd.head | apply Upd.tail | apply Upd.right) (by repeat first | exact mH | apply mT | apply mA) en85 (.cons (.t rfl) (.cons (.t rfl) (.cons .f (.cons (.t rfl) .nil)))) (fun w I => gone_9_59 86 87 [.pointer (some ⟨b4, 0, none⟩)] (fun a => a.name) (fun x => chMirror 8 (onlyX x)) kb.b5 (mirrorsM k) (DR b4 b3) o8 _ _ l.xs w en86 en87 (at_mem (by repeat first | exact mH | apply mT | apply mA) w I) (fun w1 k1 => ha.xs.keep0 (I.but (by repeat first | exact Rem.head | apply Rem.tail) k1).keeps) (fun w1 k1 => by have I1 := I.but (by repeat first | exact Rem.head | apply Rem.tail) k1; exact (known_of (x := kb) (l := k) (by repeat first | exact mH | apply mT | apply mA) w1 I1).xs) (key10_at _ _) (tell11_at b4 b3) (by simp only [List.length_append, List.length_nil]; have g1 := goneL_len eqd (fun a => a) (portsM l) (fun x => chPort 1 x) k.ps; have g2 := goneL_len SMeterConf.eqb (fun a => a) (firstN SMeterConf.eqb (fun a => a) l.ms l.ms.length) (fun x => chMeter 5 x) k.ms; have g3 := goneL_len SMirrorConf.eqb (fun a => a) (firstN SMirrorConf.eqb (fun a => a) l.xs l.xs.length) (fun x => chMirror 7 x) k.xs; have g4 := goneL_len SRoute.eqb (fun a => a) (firstN SRoute.eqb (fun a => a) l.rs l.rs.length) (fun x => chRoute 3 x) k.rs; have g5 := ite_len (p := l.us = k.us) (chRules rv); have g6 := ite_len (p := a.default = b.default) (chDefault b.default); have g7 := goneL_len SPrefix.eqb (fun a => a.to_) (routesM k) (fun x => chRoute 4 (onlyR x)) l.rs; have g8 := goneL_len eqs (fun a => a.name) (metersM k) (fun x => chMeter 6 (onlyM x)) l.ms; omega)) (fun o9 _ => ?_))
    refine nil (pN (seq (region (cons (opv (Ev.fieldAddr (o := 0) (.t rfl) (by kernel_rfl)) ?_)))))
    refine cons (opv (Ev.load (xv := a.ports) ty22 (.t rfl) (ptsVar (by repeat first | exact mH | apply mT | apply mA) SConf.l_ports)) ?_)
    refine cons (opv (Ev.fieldAddr (o := 0) (.t rfl) (by kernel_rfl)) ?_)
    refine cons (opv (Ev.ldv ty80 (.t rfl) SConfKnown.l_ports) ?_)
    refine cons (opv (Ev.makeFunc (f := 88) (.cons (.t rfl) .nil)) ?_)
    refine cons (callr (X := OV) (r := DR b4 b3 o9 ((((((((([] ++ goneL eqd (fun a => a) (portsM l) (fun x => chPort 1 x) k.ps) ++ goneL SMeterConf.eqb (fun a => a) (firstN SMeterConf.eqb (fun a => a) l.ms l.ms.length) (fun x => chMeter 5 x) k.ms) ++ goneL SMirrorConf.eqb (fun a => a) (firstN SMirrorConf.eqb (fun a => a) l.xs l.xs.length) (fun x => chMirror 7 x) k.xs) ++ goneL SRoute.eqb (fun a => a) (firstN SRoute.eqb (fun a => a) l.rs l.rs.length) (fun x => chRoute 3 x) k.rs) ++ (if l.us = k.us then [] else [chRules rv])) ++ (if a.default = b.default then [] else [chDefault b.default])) ++ goneL SPrefix.eqb (fun a => a.to_) (routesM k) (fun x => chRoute 4 (onlyR x)) l.rs) ++ goneL eqs (fun a => a.name) (metersM k) (fun x => chMeter 6 (onlyM x)) l.ms) ++ goneL eqs (fun a => a.name) (mirrorsM k) (fun x => chMirror 8 (onlyX x)) l.xs)) (r' := fun o2 => DR b4 b3 o2 (((((((((([] ++ goneL eqd (fun a => a) (portsM l) (fun x => chPort 1 x) k.ps) ++ goneL SMeterConf.eqb (fun a => a) (firstN SMeterConf.eqb (fun a => a) l.ms l.ms.length) (fun x => chMeter 5 x) k.ms) ++ goneL SMirrorConf.eqb (fun a => a) (firstN SMirrorConf.eqb (fun a => a) l.xs l.xs.length) (fun x => chMirror 7 x) k.xs) ++ goneL SRoute.eqb (fun a => a) (firstN SRoute.eqb (fun a => a) l.rs l.rs.length) (fun x => chRoute 3 x) k.rs) ++ (if l.us = k.us then [] else [chRules rv])) ++ (if a.default = b.default then [] else [chDefault b.default])) ++ goneL SPrefix.eqb (fun a => a.to_) (routesM k) (fun x => chRoute 4 (onlyR x)) l.rs) ++ goneL eqs (fun a => a.name) (metersM k) (fun x => chMeter 6 (onlyM x)) l.ms) ++ goneL eqs (fun a => a.name) (mirrorsM k) (fun x => chMirror 8 (onlyX x)) l.xs) ++ goneL eqd (fun a => a) (portsM k) (fun x => chPort 2 x) l.ps)) (fun _ => True) (fun _ => .tuple #[]) (fun _ => by repeat first | exact Upd.head | apply Upd.tail | apply Upd.right) (by repeat first | exact mH | apply mT | apply mA) en64 (.cons (.t rfl) (.cons (.t rfl) (.cons .f (.cons (.t rfl) .nil)))) (fun w I => gone_3_3 65 88 [.pointer (some ⟨b4, 0, none⟩)] (fun a => a) (fun x => chPort 2 x) kb.b1 (portsM k) (DR b4 b3) o9 _ _ l.ps w en65 en88 (at_mem (by repeat first | exact mH | apply mT | apply mA) w I) (fun w1 k1 => ha.ps.keep0 (I.but (by repeat first | exact Rem.head | apply Rem.tail) k1).keeps) (fun w1 k1 => by have I1 := I.but (by repeat first | exact Rem.head | apply Rem.tail) k1; exact (known_of (x := kb) (l := k) (by repeat first | exact mH | apply mT | apply mA) w1 I1).ps) (its_i_at _ _) (tell12_at b4 b3) (by simp only [List.length_append, List.length_nil]; have g1 := goneL_len eqd (fun a => a) (portsM l) (fun x => chPort 1 x) k.ps; have g2 := goneL_len SMeterConf.eqb (fun a => a) (firstN SMeterConf.eqb (fun a => a) l.ms l.ms.length) (fun x => chMeter 5 x) k.ms; have g3 := goneL_len SMirrorConf.eqb (fun a => a) (firstN SMirrorConf.eqb (fun a => a) l.xs l.xs.length) (fun x => chMirror 7 x) k.xs; have g4 := goneL_len SRoute.eqb (fun a => a) (firstN SRoute.eqb (fun a => a) l.rs l.rs.length) (fun x => chRoute 3 x) k.rs; have g5 := ite_len (p := l.us = k.us) (chRules rv); have g6 := ite_len (p := a.default = b.default) (chDefault b.default); have g7 := goneL_len SPrefix.eqb (fun a => a.to_) (routesM k) (fun x => chRoute 4 (onlyR x)) l.rs; have g8 := goneL_len eqs (fun a => a.name) (metersM k) (fun x => chMeter 6 (onlyM x)) l.ms; have g9 := goneL_len eqs (fun a => a.name) (mirrorsM k) (fun x => chMirror 8 (onlyX x)) l.xs; omega)) (fun o10 _ => ?_))
    refine nil (pN (seq (sepOut (r := Var b4 (ovE nilFn) (clo 63 [.pointer (some ⟨b3, 0, none⟩)]) 113) (s := OR b3 o10 (((((((((([] ++ goneL eqd (fun a => a) (portsM l) (fun x => chPort 1 x) k.ps) ++ goneL SMeterConf.eqb (fun a => a) (firstN SMeterConf.eqb (fun a => a) l.ms l.ms.length) (fun x => chMeter 5 x) k.ms) ++ goneL SMirrorConf.eqb (fun a => a) (firstN SMirrorConf.eqb (fun a => a) l.xs l.xs.length) (fun x => chMirror 7 x) k.xs) ++ goneL SRoute.eqb (fun a => a) (firstN SRoute.eqb (fun a => a) l.rs l.rs.length) (fun x => chRoute 3 x) k.rs) ++ (if l.us = k.us then [] else [chRules rv])) ++ (if a.default = b.default then [] else [chDefault b.default])) ++ goneL SPrefix.eqb (fun a => a.to_) (routesM k) (fun x => chRoute 4 (onlyR x)) l.rs) ++ goneL eqs (fun a => a.name) (metersM k) (fun x => chMeter 6 (onlyM x)) l.ms) ++ goneL eqs (fun a => a.name) (mirrorsM k) (fun x => chMirror 8 (onlyX x)) l.xs) ++ goneL eqd (fun a => a) (portsM k) (fun x => chPort 2 x) l.ps)) (by repeat first | exact Rem.head | apply Rem.tail) ?_)))
    refine sepOut (Rem.tail Rem.head) ?_
    refine region (cons (opv (Ev.ldv ty41 (.t rfl) (Lens.id _)) ?_))
    refine cons (opv (Ev.assign (.t rfl)) (cons (opv (Ev.assign (.c (v := I 0) rfl)) ?_)))
    refine nil (pN (ret (done rfl (.tmp rfl (.tmp rfl .nil)) (fun w I => ?_))))
    exact retNP (o10, rv) trivial (by unfold diffE; rw [hbo]; rfl) (by unfold diffL diffR; rw [hbo, if_pos rfl, if_pos rfl]; exact (by repeat first | exact SubP.nil | refine SubP.cons (by repeat first | exact Rem.head | apply Rem.tail) ?_)) w I
end Go.Proofs.YtnoobdijbpmjkaaGreat
