/- conf -/
import Derived.Test.YtnoobdijbpmjkaaGreatC17
set_option linter.unusedVariables false
set_option linter.unusedSimpArgs false
namespace Go.Proofs.YtnoobdijbpmjkaaGreat
open Go Go.Gx

structure SConfFaults where
  l : OV
  at_ : Int

def SConfFaults.to : (OV × Int) → SConfFaults := fun x => ⟨x.1, x.2⟩

def SConfFaults.of : SConfFaults → (OV × Int) := fun x => (x.l, x.at_)

def eConfFaults : Enc SConfFaults := isoE (prodE (ovE nilSl) iE) SConfFaults.to SConfFaults.of

def SConfFaults.l_l : Lens eConfFaults (ovE nilSl) 0 := lIso _ SConfFaults.to SConfFaults.of (fun _ => rfl) (lFst (ovE nilSl) iE)

@[simp] theorem SConfFaults.get_l (x : SConfFaults) : SConfFaults.l_l.get x = x.l := rfl

@[simp] theorem SConfFaults.set_l (x : SConfFaults) (y : OV) : SConfFaults.l_l.set x y = { x with l := y } := rfl

def SConfFaults.l_at_ : Lens eConfFaults iE 1 := lIso _ SConfFaults.to SConfFaults.of (fun _ => rfl) (Lens.comp (lSnd (ovE nilSl) iE) (Lens.id iE))

@[simp] theorem SConfFaults.get_at_ (x : SConfFaults) : SConfFaults.l_at_.get x = x.at_ := rfl

@[simp] theorem SConfFaults.set_at_ (x : SConfFaults) (y : Int) : SConfFaults.l_at_.set x y = { x with at_ := y } := rfl

structure SFault where
  code : Int
  at_ : Int

def SFault.to : (Int × Int) → SFault := fun x => ⟨x.1, x.2⟩

def SFault.of : SFault → (Int × Int) := fun x => (x.code, x.at_)

def eFault : Enc SFault := isoE (prodE iE iE) SFault.to SFault.of

def SFault.l_code : Lens eFault iE 0 := lIso _ SFault.to SFault.of (fun _ => rfl) (lFst iE iE)

@[simp] theorem SFault.get_code (x : SFault) : SFault.l_code.get x = x.code := rfl

@[simp] theorem SFault.set_code (x : SFault) (y : Int) : SFault.l_code.set x y = { x with code := y } := rfl

def SFault.l_at_ : Lens eFault iE 1 := lIso _ SFault.to SFault.of (fun _ => rfl) (Lens.comp (lSnd iE iE) (Lens.id iE))

@[simp] theorem SFault.get_at_ (x : SFault) : SFault.l_at_.get x = x.at_ := rfl

@[simp] theorem SFault.set_at_ (x : SFault) (y : Int) : SFault.l_at_.set x y = { x with at_ := y } := rfl

/-- The faults of the first n, whose numbers begin at d. -/
def faultsUp (e : Nat → Int) (d : Int) : Nat → List SFault
  | 0 => []
  | n + 1 => faultsUp e d n ++ (if e n = 0 then [] else [⟨e n, d + n⟩])
theorem faultsUp_len (e : Nat → Int) (d : Int) : ∀ n, (faultsUp e d n).length ≤ n
  | 0 => Nat.le_refl _
  | n + 1 => by
    have := faultsUp_len e d n
    unfold faultsUp
    rw [List.length_append]
    split <;> simp <;> omega
theorem faultsUp_ok {e : Nat → Int} {d i : Int} (h : 0 ≤ i) (he : e i.toNat = 0) : faultsUp e d (i + 1).toNat = faultsUp e d i.toNat := by
  rw [show (i + 1).toNat = i.toNat + 1 by omega, faultsUp, if_pos he, List.append_nil]
theorem faultsUp_bad {e : Nat → Int} {d i : Int} (h : 0 ≤ i) (he : ¬ e i.toNat = 0) : faultsUp e d (i + 1).toNat = faultsUp e d i.toNat ++ [⟨e i.toNat, d + i⟩] := by
  rw [show (i + 1).toNat = i.toNat + 1 by omega, faultsUp, if_neg he]
  have : ((i.toNat : Nat) : Int) = i := by omega
  rw [this]
/-- The faults of a list of n things, of which so many may be at most. -/
def listG (e : Nat → Int) (d : Int) (n most : Nat) : List SFault := faultsUp e d (min n most) ++ (if most < n then [⟨4, d + most⟩] else [])
/-- The faults that are gathered. -/
abbrev FR (b : Nat) (o : OV) (fs : List SFault) (d : Int) : Res := Sep (Var b eConfFaults ⟨o, d⟩ 88) (OwnS o.v eFault fs 37)
theorem getD_take'' {α : Type} (l : List α) (m i : Nat) (d : α) (h : i < m) : (l.take m).getD i d = l.getD i d := by simp [List.getD, List.getElem?_take, h]

theorem ty31 : TyOK Tryz.prog 31 (ovE nilSl) := TyOK.mk' (by kernel_rfl) (by kernel_rfl)

theorem z37 : (Tryz.prog.info? 37).bind (·.zero) = some (eFault.val eFault.zero) := by kernel_rfl

theorem ty37 : TyOK Tryz.prog 37 eFault := TyOK.mk' (by kernel_rfl) (by kernel_rfl)

theorem zb37 : (Tryz.prog.info? 37).map (fun i => (i.zero, i.bytes)) = some (some (eFault.val eFault.zero), 16) := by kernel_rfl

theorem zs37 : (eFault.val eFault.zero).cells.size = eFault.size := by rw [Enc.cells_val, List.size_toArray, Enc.len]

theorem list_3 (f : Nat) (fst cap : List Value) (g : Int → Int → Int) (D : Int → Int → Prop) (b : Nat) (o : OV) (fs : List SFault) (d : Int) (u : Value) (xs : List Int) (most : Nat) (w : World) (hen : Gx.Enters Tryz.prog f) (h : At (FR b o fs d) w) (hxs : ∀ w1, Keeps (FR b o fs d).foot w w1 → IsSl iE w1 u xs) (hk : FnB2 Tryz.prog f fst cap (FR b o fs d).foot w iE iE iE D g) (hD : ∀ i : Nat, i < xs.length → D (xs.getD i iE.zero) i) (hd : 0 ≤ d ∧ d + xs.length ≤ 4611686018427387904) (hf : fs.length + most ≤ 100000) : Calls Tryz.prog 37 #[.pointer (some ⟨b, 0, none⟩), u, I most, (bnd f fst cap).v] w (RetR w (FR b o fs d) (fun _ : OV => True) (fun _ => .tuple #[]) (fun o2 => FR b o2 (fs ++ listG (fun j0 : Nat => g (xs.getD j0 iE.zero) j0) d xs.length most) (d + xs.length))) := by
  obtain ⟨m, hm⟩ : ∃ m : Nat, (min (xs.length : Int) (most : Int)) = (m : Int) := ⟨min xs.length most, by omega⟩
  have hm2 : m = min xs.length most := by omega
  have hle := (hxs w (Keeps.refl _ _)).le
  have htl : (xs.take m).length = m := by simp; omega
  refine enter (FR b o fs d).foot 76 [FR b o fs d] Tryz.func37 rfl rfl (Nat.le_of_ble_eq_true rfl) (start_at h) ?_
  refine sepOut Rem.head ?_
  refine seq (seq (region (cons (opv (Ev.move (.t rfl)) (cons (opv (Ev.move (.t rfl)) (cons (opv (Ev.len Tryz.underlying22 (.t rfl) (fun w I => hxs w I.keeps)) ?_))))))))
  refine cons (opv (Ev.move (.t rfl)) (cons (opv (Ev.to (v' := I ((m : Nat) : Int)) (Ev.min_i (.t rfl) (.t rfl)) (by rw [hm])) ?_)))
  refine cons (opv (Ev.sliceH Tryz.underlying22 ty3 (.t rfl) (.t rfl) (fun w I => hxs w I.keeps) (fun _ => by omega)) ?_)
  refine cons (opv (Ev.len Tryz.underlying22 (.t rfl) (fun w I => by have := (hxs w I.keeps).sub (l := 0) (k := m) (by omega) (by omega); simpa using this)) ?_)
  refine cons (opv (Ev.move (.c (v := I 0) rfl)) ?_)
  refine nil (pN (block (loop (X := Int × OV) (fun x : Int × OV => (0 ≤ x.1 ∧ x.1 ≤ m)) (fun x : Int × OV => [(0, true, .pointer (some ⟨b, 0, none⟩)), (1, true, u), (2, true, I most), (3, true, (bnd f fst cap).v), (16, true, subS iE.size u 0 m), (17, true, I (xs.take m).length), (18, true, I x.1)]) (fun x : Int × OV => [Var b eConfFaults ⟨x.2, d⟩ 88, OwnS x.2.v eFault (fs ++ faultsUp (fun j0 : Nat => g (xs.getD j0 iE.zero) j0) d x.1.toNat) 37]) (fun x : Int × OV => ((m : Int) - x.1).toNat) (0, o) ?_ (by repeat first | exact Sub.nil | refine Sub.cons rfl ?_) (by simp only [show (0 : Int).toNat = 0 from rfl, faultsUp, List.append_nil]; repeat first | exact sR | exact sN | apply sC | apply sS | apply sA) (fun x hx => ?_))))
  · omega
  obtain ⟨i, q⟩ := x
  have hi : 0 ≤ i ∧ i ≤ m := hx
  clear hx
  show Sat _ _ [(0, true, .pointer (some ⟨b, 0, none⟩)), (1, true, u), (2, true, I most), (3, true, (bnd f fst cap).v), (16, true, subS iE.size u 0 m), (17, true, I (xs.take m).length), (18, true, I i)] [Var b eConfFaults ⟨q, d⟩ 88, OwnS q.v eFault (fs ++ faultsUp (fun j0 : Nat => g (xs.getD j0 iE.zero) j0) d i.toNat) 37]
  refine seq (region (cons (opv (Ev.lss_i (.t rfl) (.t rfl)) ?_)))
  refine nil (pN (seq ?_))
  first | refine condD rfl (fun h0 => ?_) (fun h0 => ?_) | refine cond rfl (fun h0 => ?_) (fun h0 => ?_)
  · try simp only [nb] at h0
    refine skip (pN (seq (block (seq (region (cons (opv (Ev.move (.t rfl)) (cons (opv (Ev.indexAddr Tryz.underlying22 ty3 (.t rfl) (.t rfl) (fun w I => by have := (hxs w I.keeps).sub (l := 0) (k := m) (by omega) (by omega); simpa using this) (fun _ => by omega)) ?_)))))))))
    refine cons (opv (Ev.to (v' := iE.val (xs.getD i.toNat iE.zero)) (Ev.loadS0 ty3 (.t rfl) (fun w I => by have := (hxs w I.keeps).sub (l := 0) (k := m) (by omega) (by omega); simpa using this) (fun _ => by omega)) (congrArg iE.val (getD_take'' xs m i.toNat _ (by omega)))) ?_)
    refine cons (opv (Ev.assign (.t rfl)) (cons (opv (Ev.assign (.t rfl)) (nil (pN (seq (region (cons (opv (Ev.move (.t rfl)) (cons (opv (Ev.move (.t rfl)) (cons (opv (Ev.move (.t rfl)) (cons (callbv (.t rfl) hen (.cons (.t rfl) (.cons (.t rfl) .nil)) (fun w I => hk (xs.getD i.toNat iE.zero) i w (by have := hD i.toNat (by omega); rwa [show ((i.toNat : Nat) : Int) = i by omega] at this) I.keeps) ?_)))))))))))))))
    refine cons (opv (Ev.assign (.t rfl)) (nil (pN (seq (region (cons (opv (Ev.move (.t rfl)) (cons (opv (Ev.neq_i (.t rfl) (.c (v := I 0) rfl)) ?_)))))))))
    refine nil (pN ?_)
    first | refine condD rfl (fun h1 => ?_) (fun h1 => ?_) | refine cond rfl (fun h1 => ?_) (fun h1 => ?_)
    · try simp only [nb] at h1
      have ei : ((i.toNat : Nat) : Int) = i := by omega
      have hst := faultsUp_bad (e := (fun j0 : Nat => g (xs.getD j0 iE.zero) j0)) (d := d) hi.1 (by (try dsimp only); rw [ei]; exact h1)
      (try dsimp only at hst)
      rw [ei] at hst
      refine draw [] (by kernel_rfl) ?_
      refine tk 0 rfl (Ev.move (.t rfl)) ?_
      refine tk 1 rfl (Ev.move (.t rfl)) ?_
      refine tk 2 rfl (Ev.nilCheck (.t rfl)) ?_
      refine tk 3 rfl (Ev.fieldAddr (o := 0) (.t rfl) (by kernel_rfl)) ?_
      refine tk 5 rfl (Ev.move (.t rfl)) ?_
      refine tk 6 rfl (Ev.move (.t rfl)) ?_
      refine tk 7 rfl (Ev.nilCheck (.t rfl)) ?_
      refine tk 8 rfl (Ev.fieldAddr (o := 1) (.t rfl) (by kernel_rfl)) ?_
      refine tk 10 rfl (Ev.move (.t rfl)) ?_
      refine all [4, 9] (by kernel_rfl) (by decide) (.cons rfl ?_ (.cons rfl ?_ .nil))
      · refine (opv (Ev.ldv ty31 (.t rfl) SConfFaults.l_l) ?_)
        refine hdn (al1 9 rfl ((opv (Ev.ldv ty3 (.t rfl) SConfFaults.l_at_) ?_)))
        refine hdn (tk 11 rfl (Ev.add_i (.t rfl) (.t rfl) (fun _ => by simp; omega)) ?_)
        refine tk 12 rfl (Ev.buildS (fs := _) (places := [(0, 1), (1, 1)]) z37 rfl Tryz.underlying37 (by kernel_rfl) (.cons (.t rfl) (.cons (.t rfl) .nil)) (Fills.cons SFault.l_code rfl (Fills.cons SFault.l_at_ rfl Fills.nil))) ?_
        refine al1 13 rfl ((buildSlice (E := eFault) Tryz.underlying31 ty37 z37 (.cons (.t rfl) .nil) rfl rfl (fun v1 => ?_)))
        refine hdn (al1 14 rfl ((append (E := eFault) Tryz.underlying31 ty37 rfl zb37 zs37 (.t rfl) (.t rfl) (fun _ => by repeat first | exact Upd.head | apply Upd.tail | apply Upd.right) (by first | exact isSl_own (by repeat first | exact mH | apply mT | apply mA) | exact fun w I => IsSl.keep0 (by assumption) I.keeps) (⟨by (show _ ≤ 9223372036854775807); have := faultsUp_len (fun j0 : Nat => g (xs.getD j0 iE.zero) j0) d i.toNat; simp only [List.length_append, List.length_cons, List.length_nil]; omega, by have := faultsUp_len (fun j0 : Nat => g (xs.getD j0 iE.zero) j0) d i.toNat; simp only [List.length_append, List.length_cons, List.length_nil]; omega⟩) (fun v2 => ?_))))
        refine hdn (tk 15 rfl (Ev.nilCheck (.t rfl)) ?_)
        refine tk 16 rfl (Ev.fieldAddr (o := 0) (.t rfl) (by kernel_rfl)) ?_
        refine al1 17 rfl ((stv ty31 SConfFaults.l_l (.t rfl) (.t rfl) ?_))
        refine hdn (ovr (bN (pN (region (cons (opv (Ev.add_i (.t rfl) (.c (v := I 1) rfl) (fun _ => by omega)) ?_))))))
        refine cons (opv (Ev.move (.t rfl)) (nil (pN (next (X := Int × OV) (i + 1, _) ?_ ?_ (by repeat first | exact Sub.nil | refine Sub.cons rfl ?_) (by rw [hst]; (try rw [← List.append_assoc]); repeat first | exact sR | exact sN | apply sC | apply sS | apply sA)))))
        · try dsimp only
          omega
        · try dsimp only
          omega
      · refine (opv (Ev.ldv ty3 (.t rfl) SConfFaults.l_at_) ?_)
        refine hdn (tk 11 rfl (Ev.add_i (.t rfl) (.t rfl) (fun _ => by simp; omega)) ?_)
        refine tk 12 rfl (Ev.buildS (fs := _) (places := [(0, 1), (1, 1)]) z37 rfl Tryz.underlying37 (by kernel_rfl) (.cons (.t rfl) (.cons (.t rfl) .nil)) (Fills.cons SFault.l_code rfl (Fills.cons SFault.l_at_ rfl Fills.nil))) ?_
        refine all [4, 13] (by kernel_rfl) (by decide) (.cons rfl ?_ (.cons rfl ?_ .nil))
        · refine (opv (Ev.ldv ty31 (.t rfl) SConfFaults.l_l) ?_)
          refine hdn (al1 13 rfl ((buildSlice (E := eFault) Tryz.underlying31 ty37 z37 (.cons (.t rfl) .nil) rfl rfl (fun v3 => ?_))))
          refine hdn (al1 14 rfl ((append (E := eFault) Tryz.underlying31 ty37 rfl zb37 zs37 (.t rfl) (.t rfl) (fun _ => by repeat first | exact Upd.head | apply Upd.tail | apply Upd.right) (by first | exact isSl_own (by repeat first | exact mH | apply mT | apply mA) | exact fun w I => IsSl.keep0 (by assumption) I.keeps) (⟨by (show _ ≤ 9223372036854775807); have := faultsUp_len (fun j0 : Nat => g (xs.getD j0 iE.zero) j0) d i.toNat; simp only [List.length_append, List.length_cons, List.length_nil]; omega, by have := faultsUp_len (fun j0 : Nat => g (xs.getD j0 iE.zero) j0) d i.toNat; simp only [List.length_append, List.length_cons, List.length_nil]; omega⟩) (fun v4 => ?_))))
          refine hdn (tk 15 rfl (Ev.nilCheck (.t rfl)) ?_)
          refine tk 16 rfl (Ev.fieldAddr (o := 0) (.t rfl) (by kernel_rfl)) ?_
          refine al1 17 rfl ((stv ty31 SConfFaults.l_l (.t rfl) (.t rfl) ?_))
          refine hdn (ovr (bN (pN (region (cons (opv (Ev.add_i (.t rfl) (.c (v := I 1) rfl) (fun _ => by omega)) ?_))))))
          refine cons (opv (Ev.move (.t rfl)) (nil (pN (next (X := Int × OV) (i + 1, _) ?_ ?_ (by repeat first | exact Sub.nil | refine Sub.cons rfl ?_) (by rw [hst]; (try rw [← List.append_assoc]); repeat first | exact sR | exact sN | apply sC | apply sS | apply sA)))))
          · try dsimp only
            omega
          · try dsimp only
            omega
        · refine (buildSlice (E := eFault) Tryz.underlying31 ty37 z37 (.cons (.t rfl) .nil) rfl rfl (fun v5 => ?_))
          refine hdn (al1 4 rfl ((opv (Ev.ldv ty31 (.t rfl) SConfFaults.l_l) ?_)))
          refine hdn (al1 14 rfl ((append (E := eFault) Tryz.underlying31 ty37 rfl zb37 zs37 (.t rfl) (.t rfl) (fun _ => by repeat first | exact Upd.head | apply Upd.tail | apply Upd.right) (by first | exact isSl_own (by repeat first | exact mH | apply mT | apply mA) | exact fun w I => IsSl.keep0 (by assumption) I.keeps) (⟨by (show _ ≤ 9223372036854775807); have := faultsUp_len (fun j0 : Nat => g (xs.getD j0 iE.zero) j0) d i.toNat; simp only [List.length_append, List.length_cons, List.length_nil]; omega, by have := faultsUp_len (fun j0 : Nat => g (xs.getD j0 iE.zero) j0) d i.toNat; simp only [List.length_append, List.length_cons, List.length_nil]; omega⟩) (fun v6 => ?_))))
          refine hdn (tk 15 rfl (Ev.nilCheck (.t rfl)) ?_)
          refine tk 16 rfl (Ev.fieldAddr (o := 0) (.t rfl) (by kernel_rfl)) ?_
          refine al1 17 rfl ((stv ty31 SConfFaults.l_l (.t rfl) (.t rfl) ?_))
          refine hdn (ovr (bN (pN (region (cons (opv (Ev.add_i (.t rfl) (.c (v := I 1) rfl) (fun _ => by omega)) ?_))))))
          refine cons (opv (Ev.move (.t rfl)) (nil (pN (next (X := Int × OV) (i + 1, _) ?_ ?_ (by repeat first | exact Sub.nil | refine Sub.cons rfl ?_) (by rw [hst]; (try rw [← List.append_assoc]); repeat first | exact sR | exact sN | apply sC | apply sS | apply sA)))))
          · try dsimp only
            omega
          · try dsimp only
            omega
    · try simp only [nb] at h1
      have ei : ((i.toNat : Nat) : Int) = i := by omega
      have hst := faultsUp_ok (e := (fun j0 : Nat => g (xs.getD j0 iE.zero) j0)) (d := d) hi.1 (by (try dsimp only); rw [ei]; exact h1)
      refine skip (bN (pN (region (cons (opv (Ev.add_i (.t rfl) (.c (v := I 1) rfl) (fun _ => by omega)) ?_)))))
      refine cons (opv (Ev.move (.t rfl)) (nil (pN (next (X := Int × OV) (i + 1, _) ?_ ?_ (by repeat first | exact Sub.nil | refine Sub.cons rfl ?_) (by rw [hst]; (try rw [← List.append_assoc]); repeat first | exact sR | exact sN | apply sC | apply sS | apply sA)))))
      · try dsimp only
        omega
      · try dsimp only
        omega
  · try simp only [nb] at h0
    refine exit (pX (pX (bX (pN (cut (X := OV) (fun x : OV => True) (fun x : OV => [(0, true, .pointer (some ⟨b, 0, none⟩)), (1, true, u)]) (fun x : OV => [Var b eConfFaults ⟨x, d⟩ 88, OwnS x.v eFault (fs ++ listG (fun j0 : Nat => g (xs.getD j0 iE.zero) j0) d xs.length most) 37]) ?_ (fun x hx => ?_))))))
    · refine seq (region ?_)
      have him : i.toNat = m := by omega
      rw [him]
      refine cons (opv (Ev.move (.t rfl)) (cons (opv (Ev.len Tryz.underlying22 (.t rfl) (fun w I => hxs w I.keeps)) ?_)))
      refine cons (opv (Ev.move (.t rfl)) (cons (opv (Ev.gtr_i (.t rfl) (.t rfl)) ?_)))
      refine nil (pN ?_)
      first | refine condD rfl (fun h2 => ?_) (fun h2 => ?_) | refine cond rfl (fun h2 => ?_) (fun h2 => ?_)
      · try simp only [nb] at h2
        refine draw [] (by kernel_rfl) ?_
        refine tk 0 rfl (Ev.move (.t rfl)) ?_
        refine tk 1 rfl (Ev.move (.t rfl)) ?_
        refine tk 2 rfl (Ev.nilCheck (.t rfl)) ?_
        refine tk 3 rfl (Ev.fieldAddr (o := 0) (.t rfl) (by kernel_rfl)) ?_
        refine tk 5 rfl (Ev.move (.t rfl)) ?_
        refine tk 6 rfl (Ev.nilCheck (.t rfl)) ?_
        refine tk 7 rfl (Ev.fieldAddr (o := 1) (.t rfl) (by kernel_rfl)) ?_
        refine tk 9 rfl (Ev.move (.t rfl)) ?_
        refine all [4, 8] (by kernel_rfl) (by decide) (.cons rfl ?_ (.cons rfl ?_ .nil))
        · refine (opv (Ev.ldv ty31 (.t rfl) SConfFaults.l_l) ?_)
          refine hdn (al1 8 rfl ((opv (Ev.ldv ty3 (.t rfl) SConfFaults.l_at_) ?_)))
          refine hdn (tk 10 rfl (Ev.add_i (.t rfl) (.t rfl) (fun _ => by simp; omega)) ?_)
          refine tk 11 rfl (Ev.buildS (fs := _) (places := [(0, 1), (1, 1)]) z37 rfl Tryz.underlying37 (by kernel_rfl) (.cons (.c (v := I 4) rfl) (.cons (.t rfl) .nil)) (Fills.cons SFault.l_code rfl (Fills.cons SFault.l_at_ rfl Fills.nil))) ?_
          refine al1 12 rfl ((buildSlice (E := eFault) Tryz.underlying31 ty37 z37 (.cons (.t rfl) .nil) rfl rfl (fun v7 => ?_)))
          refine hdn (al1 13 rfl ((append (E := eFault) Tryz.underlying31 ty37 rfl zb37 zs37 (.t rfl) (.t rfl) (fun _ => by repeat first | exact Upd.head | apply Upd.tail | apply Upd.right) (by first | exact isSl_own (by repeat first | exact mH | apply mT | apply mA) | exact fun w I => IsSl.keep0 (by assumption) I.keeps) (⟨by (show _ ≤ 9223372036854775807); have := faultsUp_len (fun j0 : Nat => g (xs.getD j0 iE.zero) j0) d m; simp only [List.length_append, List.length_cons, List.length_nil]; omega, by have := faultsUp_len (fun j0 : Nat => g (xs.getD j0 iE.zero) j0) d m; simp only [List.length_append, List.length_cons, List.length_nil]; omega⟩) (fun v8 => ?_))))
          refine hdn (tk 14 rfl (Ev.nilCheck (.t rfl)) ?_)
          refine tk 15 rfl (Ev.fieldAddr (o := 0) (.t rfl) (by kernel_rfl)) ?_
          refine al1 16 rfl ((stv ty31 SConfFaults.l_l (.t rfl) (.t rfl) ?_))
          refine hdn (ovr (pN (meet (X := OV) (_) trivial (by repeat first | exact Sub.nil | refine Sub.cons rfl ?_) (by unfold listG; rw [← hm2]; (first | rw [if_pos (by omega), ← List.append_assoc] | rw [if_neg (by omega), List.append_nil]); repeat first | exact sR | exact sN | apply sC | apply sS | apply sA))))
        · refine (opv (Ev.ldv ty3 (.t rfl) SConfFaults.l_at_) ?_)
          refine hdn (tk 10 rfl (Ev.add_i (.t rfl) (.t rfl) (fun _ => by simp; omega)) ?_)
          refine tk 11 rfl (Ev.buildS (fs := _) (places := [(0, 1), (1, 1)]) z37 rfl Tryz.underlying37 (by kernel_rfl) (.cons (.c (v := I 4) rfl) (.cons (.t rfl) .nil)) (Fills.cons SFault.l_code rfl (Fills.cons SFault.l_at_ rfl Fills.nil))) ?_
          refine all [4, 12] (by kernel_rfl) (by decide) (.cons rfl ?_ (.cons rfl ?_ .nil))
          · refine (opv (Ev.ldv ty31 (.t rfl) SConfFaults.l_l) ?_)
            refine hdn (al1 12 rfl ((buildSlice (E := eFault) Tryz.underlying31 ty37 z37 (.cons (.t rfl) .nil) rfl rfl (fun v9 => ?_))))
            refine hdn (al1 13 rfl ((append (E := eFault) Tryz.underlying31 ty37 rfl zb37 zs37 (.t rfl) (.t rfl) (fun _ => by repeat first | exact Upd.head | apply Upd.tail | apply Upd.right) (by first | exact isSl_own (by repeat first | exact mH | apply mT | apply mA) | exact fun w I => IsSl.keep0 (by assumption) I.keeps) (⟨by (show _ ≤ 9223372036854775807); have := faultsUp_len (fun j0 : Nat => g (xs.getD j0 iE.zero) j0) d m; simp only [List.length_append, List.length_cons, List.length_nil]; omega, by have := faultsUp_len (fun j0 : Nat => g (xs.getD j0 iE.zero) j0) d m; simp only [List.length_append, List.length_cons, List.length_nil]; omega⟩) (fun v10 => ?_))))
            refine hdn (tk 14 rfl (Ev.nilCheck (.t rfl)) ?_)
            refine tk 15 rfl (Ev.fieldAddr (o := 0) (.t rfl) (by kernel_rfl)) ?_
            refine al1 16 rfl ((stv ty31 SConfFaults.l_l (.t rfl) (.t rfl) ?_))
            refine hdn (ovr (pN (meet (X := OV) (_) trivial (by repeat first | exact Sub.nil | refine Sub.cons rfl ?_) (by unfold listG; rw [← hm2]; (first | rw [if_pos (by omega), ← List.append_assoc] | rw [if_neg (by omega), List.append_nil]); repeat first | exact sR | exact sN | apply sC | apply sS | apply sA))))
          · refine (buildSlice (E := eFault) Tryz.underlying31 ty37 z37 (.cons (.t rfl) .nil) rfl rfl (fun v11 => ?_))
            refine hdn (al1 4 rfl ((opv (Ev.ldv ty31 (.t rfl) SConfFaults.l_l) ?_)))
            refine hdn (al1 13 rfl ((append (E := eFault) Tryz.underlying31 ty37 rfl zb37 zs37 (.t rfl) (.t rfl) (fun _ => by repeat first | exact Upd.head | apply Upd.tail | apply Upd.right) (by first | exact isSl_own (by repeat first | exact mH | apply mT | apply mA) | exact fun w I => IsSl.keep0 (by assumption) I.keeps) (⟨by (show _ ≤ 9223372036854775807); have := faultsUp_len (fun j0 : Nat => g (xs.getD j0 iE.zero) j0) d m; simp only [List.length_append, List.length_cons, List.length_nil]; omega, by have := faultsUp_len (fun j0 : Nat => g (xs.getD j0 iE.zero) j0) d m; simp only [List.length_append, List.length_cons, List.length_nil]; omega⟩) (fun v12 => ?_))))
            refine hdn (tk 14 rfl (Ev.nilCheck (.t rfl)) ?_)
            refine tk 15 rfl (Ev.fieldAddr (o := 0) (.t rfl) (by kernel_rfl)) ?_
            refine al1 16 rfl ((stv ty31 SConfFaults.l_l (.t rfl) (.t rfl) ?_))
            refine hdn (ovr (pN (meet (X := OV) (_) trivial (by repeat first | exact Sub.nil | refine Sub.cons rfl ?_) (by unfold listG; rw [← hm2]; (first | rw [if_pos (by omega), ← List.append_assoc] | rw [if_neg (by omega), List.append_nil]); repeat first | exact sR | exact sN | apply sC | apply sS | apply sA))))
      · try simp only [nb] at h2
        refine skip (pN (meet (X := OV) (_) trivial (by repeat first | exact Sub.nil | refine Sub.cons rfl ?_) (by unfold listG; rw [← hm2]; (first | rw [if_pos (by omega), ← List.append_assoc] | rw [if_neg (by omega), List.append_nil]); repeat first | exact sR | exact sN | apply sC | apply sS | apply sA)))
    obtain ⟨q2, rfl⟩ : ∃ y, y = x := ⟨x, rfl⟩
    show Sat _ _ [(0, true, .pointer (some ⟨b, 0, none⟩)), (1, true, u)] [Var b eConfFaults ⟨q2, d⟩ 88, OwnS q2.v eFault (fs ++ listG (fun j0 : Nat => g (xs.getD j0 iE.zero) j0) d xs.length most) 37]
    refine region (cons (opv (Ev.move (.t rfl)) (cons (opv (Ev.nilCheck (.t rfl)) ?_))))
    refine cons (opv (Ev.fieldAddr (o := 1) (.t rfl) (by kernel_rfl)) ?_)
    refine cons (opv (Ev.ldv ty3 (.t rfl) SConfFaults.l_at_) ?_)
    refine cons (opv (Ev.move (.t rfl)) (cons (opv (Ev.len Tryz.underlying22 (.t rfl) (fun w I => hxs w I.keeps)) ?_)))
    refine cons (opv (Ev.add_i (.t rfl) (.t rfl) (fun _ => by simp; omega)) ?_)
    refine cons (opv (Ev.nilCheck (.t rfl)) ?_)
    refine cons (opv (Ev.fieldAddr (o := 1) (.t rfl) (by kernel_rfl)) ?_)
    refine cons (stv ty3 SConfFaults.l_at_ (.t rfl) (.t rfl) ?_)
    refine nil (done' rfl .nil (fun w I => ?_))
    exact retR (r' := fun o2 => FR b o2 (fs ++ listG (fun j0 : Nat => g (xs.getD j0 iE.zero) j0) d xs.length most) (d + xs.length)) _ trivial rfl (List.mem_singleton_self _) w (WInv.sepIn (I.sub (by repeat first | exact sR | exact sN | apply sC | apply sS | apply sA)))

theorem list_52 (f : Nat) (fst cap : List Value) (g : SRoute → Int → Int) (D : SRoute → Int → Prop) (b : Nat) (o : OV) (fs : List SFault) (d : Int) (u : Value) (xs : List SRoute) (most : Nat) (w : World) (hen : Gx.Enters Tryz.prog f) (h : At (FR b o fs d) w) (hxs : ∀ w1, Keeps (FR b o fs d).foot w w1 → IsSl eRoute w1 u xs) (hk : FnB2 Tryz.prog f fst cap (FR b o fs d).foot w eRoute iE iE D g) (hD : ∀ i : Nat, i < xs.length → D (xs.getD i eRoute.zero) i) (hd : 0 ≤ d ∧ d + xs.length ≤ 4611686018427387904) (hf : fs.length + most ≤ 100000) : Calls Tryz.prog 39 #[.pointer (some ⟨b, 0, none⟩), u, I most, (bnd f fst cap).v] w (RetR w (FR b o fs d) (fun _ : OV => True) (fun _ => .tuple #[]) (fun o2 => FR b o2 (fs ++ listG (fun j0 : Nat => g (xs.getD j0 eRoute.zero) j0) d xs.length most) (d + xs.length))) := by
  obtain ⟨m, hm⟩ : ∃ m : Nat, (min (xs.length : Int) (most : Int)) = (m : Int) := ⟨min xs.length most, by omega⟩
  have hm2 : m = min xs.length most := by omega
  have hle := (hxs w (Keeps.refl _ _)).le
  have htl : (xs.take m).length = m := by simp; omega
  refine enter (FR b o fs d).foot 76 [FR b o fs d] Tryz.func39 rfl rfl (Nat.le_of_ble_eq_true rfl) (start_at h) ?_
  refine sepOut Rem.head ?_
  refine seq (seq (region (cons (opv (Ev.move (.t rfl)) (cons (opv (Ev.move (.t rfl)) (cons (opv (Ev.len Tryz.underlying23 (.t rfl) (fun w I => hxs w I.keeps)) ?_))))))))
  refine cons (opv (Ev.move (.t rfl)) (cons (opv (Ev.to (v' := I ((m : Nat) : Int)) (Ev.min_i (.t rfl) (.t rfl)) (by rw [hm])) ?_)))
  refine cons (opv (Ev.sliceH Tryz.underlying23 ty52 (.t rfl) (.t rfl) (fun w I => hxs w I.keeps) (fun _ => by omega)) ?_)
  refine cons (opv (Ev.len Tryz.underlying23 (.t rfl) (fun w I => by have := (hxs w I.keeps).sub (l := 0) (k := m) (by omega) (by omega); simpa using this)) ?_)
  refine cons (opv (Ev.move (.c (v := I 0) rfl)) ?_)
  refine nil (pN (block (loop (X := Int × OV) (fun x : Int × OV => (0 ≤ x.1 ∧ x.1 ≤ m)) (fun x : Int × OV => [(0, true, .pointer (some ⟨b, 0, none⟩)), (1, true, u), (2, true, I most), (3, true, (bnd f fst cap).v), (16, true, subS eRoute.size u 0 m), (17, true, I (xs.take m).length), (18, true, I x.1)]) (fun x : Int × OV => [Var b eConfFaults ⟨x.2, d⟩ 88, OwnS x.2.v eFault (fs ++ faultsUp (fun j0 : Nat => g (xs.getD j0 eRoute.zero) j0) d x.1.toNat) 37]) (fun x : Int × OV => ((m : Int) - x.1).toNat) (0, o) ?_ (by repeat first | exact Sub.nil | refine Sub.cons rfl ?_) (by simp only [show (0 : Int).toNat = 0 from rfl, faultsUp, List.append_nil]; repeat first | exact sR | exact sN | apply sC | apply sS | apply sA) (fun x hx => ?_))))
  · omega
  obtain ⟨i, q⟩ := x
  have hi : 0 ≤ i ∧ i ≤ m := hx
  clear hx
  show Sat _ _ [(0, true, .pointer (some ⟨b, 0, none⟩)), (1, true, u), (2, true, I most), (3, true, (bnd f fst cap).v), (16, true, subS eRoute.size u 0 m), (17, true, I (xs.take m).length), (18, true, I i)] [Var b eConfFaults ⟨q, d⟩ 88, OwnS q.v eFault (fs ++ faultsUp (fun j0 : Nat => g (xs.getD j0 eRoute.zero) j0) d i.toNat) 37]
  refine seq (region (cons (opv (Ev.lss_i (.t rfl) (.t rfl)) ?_)))
  refine nil (pN (seq ?_))
  first | refine condD rfl (fun h0 => ?_) (fun h0 => ?_) | refine cond rfl (fun h0 => ?_) (fun h0 => ?_)
  · try simp only [nb] at h0
    refine skip (pN (seq (block (seq (region (cons (opv (Ev.move (.t rfl)) (cons (opv (Ev.indexAddr Tryz.underlying23 ty52 (.t rfl) (.t rfl) (fun w I => by have := (hxs w I.keeps).sub (l := 0) (k := m) (by omega) (by omega); simpa using this) (fun _ => by omega)) ?_)))))))))
    refine cons (opv (Ev.to (v' := eRoute.val (xs.getD i.toNat eRoute.zero)) (Ev.loadS0 ty52 (.t rfl) (fun w I => by have := (hxs w I.keeps).sub (l := 0) (k := m) (by omega) (by omega); simpa using this) (fun _ => by omega)) (congrArg eRoute.val (getD_take'' xs m i.toNat _ (by omega)))) ?_)
    refine cons (alloc z52 (fun b1 => ?_))
    refine cons (opv (Ev.assign (.t rfl)) (cons (stv ty52 (Lens.id _) (.t rfl) (.t rfl) ?_)))
    refine nil (pN (seq (region (cons (opv (Ev.move (.t rfl)) (cons (opv (Ev.ldv ty52 (.t rfl) (Lens.id _)) ?_)))))))
    refine cons (opv (Ev.move (.t rfl)) (cons (callbv (.t rfl) hen (.cons (.t rfl) (.cons (.t rfl) .nil)) (fun w I => hk (xs.getD i.toNat eRoute.zero) i w (by have := hD i.toNat (by omega); rwa [show ((i.toNat : Nat) : Int) = i by omega] at this) I.keeps) ?_)))
    refine cons (opv (Ev.assign (.t rfl)) (nil (pN (seq (region (cons (opv (Ev.move (.t rfl)) (cons (opv (Ev.neq_i (.t rfl) (.c (v := I 0) rfl)) ?_)))))))))
    refine nil (pN ?_)
    first | refine condD rfl (fun h1 => ?_) (fun h1 => ?_) | refine cond rfl (fun h1 => ?_) (fun h1 => ?_)
    · try simp only [nb] at h1
      have ei : ((i.toNat : Nat) : Int) = i := by omega
      have hst := faultsUp_bad (e := (fun j0 : Nat => g (xs.getD j0 eRoute.zero) j0)) (d := d) hi.1 (by (try dsimp only); rw [ei]; exact h1)
      (try dsimp only at hst)
      rw [ei] at hst
      refine draw [] (by kernel_rfl) ?_
      refine tk 0 rfl (Ev.move (.t rfl)) ?_
      refine tk 1 rfl (Ev.move (.t rfl)) ?_
      refine tk 2 rfl (Ev.nilCheck (.t rfl)) ?_
      refine tk 3 rfl (Ev.fieldAddr (o := 0) (.t rfl) (by kernel_rfl)) ?_
      refine tk 5 rfl (Ev.move (.t rfl)) ?_
      refine tk 6 rfl (Ev.move (.t rfl)) ?_
      refine tk 7 rfl (Ev.nilCheck (.t rfl)) ?_
      refine tk 8 rfl (Ev.fieldAddr (o := 1) (.t rfl) (by kernel_rfl)) ?_
      refine tk 10 rfl (Ev.move (.t rfl)) ?_
      refine all [4, 9] (by kernel_rfl) (by decide) (.cons rfl ?_ (.cons rfl ?_ .nil))
      · refine (opv (Ev.ldv ty31 (.t rfl) SConfFaults.l_l) ?_)
        refine hdn (al1 9 rfl ((opv (Ev.ldv ty3 (.t rfl) SConfFaults.l_at_) ?_)))
        refine hdn (tk 11 rfl (Ev.add_i (.t rfl) (.t rfl) (fun _ => by simp; omega)) ?_)
        refine tk 12 rfl (Ev.buildS (fs := _) (places := [(0, 1), (1, 1)]) z37 rfl Tryz.underlying37 (by kernel_rfl) (.cons (.t rfl) (.cons (.t rfl) .nil)) (Fills.cons SFault.l_code rfl (Fills.cons SFault.l_at_ rfl Fills.nil))) ?_
        refine al1 13 rfl ((buildSlice (E := eFault) Tryz.underlying31 ty37 z37 (.cons (.t rfl) .nil) rfl rfl (fun v2 => ?_)))
        refine hdn (al1 14 rfl ((append (E := eFault) Tryz.underlying31 ty37 rfl zb37 zs37 (.t rfl) (.t rfl) (fun _ => by repeat first | exact Upd.head | apply Upd.tail | apply Upd.right) (by first | exact isSl_own (by repeat first | exact mH | apply mT | apply mA) | exact fun w I => IsSl.keep0 (by assumption) I.keeps) (⟨by (show _ ≤ 9223372036854775807); have := faultsUp_len (fun j0 : Nat => g (xs.getD j0 eRoute.zero) j0) d i.toNat; simp only [List.length_append, List.length_cons, List.length_nil]; omega, by have := faultsUp_len (fun j0 : Nat => g (xs.getD j0 eRoute.zero) j0) d i.toNat; simp only [List.length_append, List.length_cons, List.length_nil]; omega⟩) (fun v3 => ?_))))
        refine hdn (tk 15 rfl (Ev.nilCheck (.t rfl)) ?_)
        refine tk 16 rfl (Ev.fieldAddr (o := 0) (.t rfl) (by kernel_rfl)) ?_
        refine al1 17 rfl ((stv ty31 SConfFaults.l_l (.t rfl) (.t rfl) ?_))
        refine hdn (ovr (bN (pN (region (cons (opv (Ev.add_i (.t rfl) (.c (v := I 1) rfl) (fun _ => by omega)) ?_))))))
        refine cons (opv (Ev.move (.t rfl)) (nil (pN (next (X := Int × OV) (i + 1, _) ?_ ?_ (by repeat first | exact Sub.nil | refine Sub.cons rfl ?_) (by rw [hst]; (try rw [← List.append_assoc]); repeat first | exact sR | exact sN | apply sC | apply sS | apply sA)))))
        · try dsimp only
          omega
        · try dsimp only
          omega
      · refine (opv (Ev.ldv ty3 (.t rfl) SConfFaults.l_at_) ?_)
        refine hdn (tk 11 rfl (Ev.add_i (.t rfl) (.t rfl) (fun _ => by simp; omega)) ?_)
        refine tk 12 rfl (Ev.buildS (fs := _) (places := [(0, 1), (1, 1)]) z37 rfl Tryz.underlying37 (by kernel_rfl) (.cons (.t rfl) (.cons (.t rfl) .nil)) (Fills.cons SFault.l_code rfl (Fills.cons SFault.l_at_ rfl Fills.nil))) ?_
        refine all [4, 13] (by kernel_rfl) (by decide) (.cons rfl ?_ (.cons rfl ?_ .nil))
        · refine (opv (Ev.ldv ty31 (.t rfl) SConfFaults.l_l) ?_)
          refine hdn (al1 13 rfl ((buildSlice (E := eFault) Tryz.underlying31 ty37 z37 (.cons (.t rfl) .nil) rfl rfl (fun v4 => ?_))))
          refine hdn (al1 14 rfl ((append (E := eFault) Tryz.underlying31 ty37 rfl zb37 zs37 (.t rfl) (.t rfl) (fun _ => by repeat first | exact Upd.head | apply Upd.tail | apply Upd.right) (by first | exact isSl_own (by repeat first | exact mH | apply mT | apply mA) | exact fun w I => IsSl.keep0 (by assumption) I.keeps) (⟨by (show _ ≤ 9223372036854775807); have := faultsUp_len (fun j0 : Nat => g (xs.getD j0 eRoute.zero) j0) d i.toNat; simp only [List.length_append, List.length_cons, List.length_nil]; omega, by have := faultsUp_len (fun j0 : Nat => g (xs.getD j0 eRoute.zero) j0) d i.toNat; simp only [List.length_append, List.length_cons, List.length_nil]; omega⟩) (fun v5 => ?_))))
          refine hdn (tk 15 rfl (Ev.nilCheck (.t rfl)) ?_)
          refine tk 16 rfl (Ev.fieldAddr (o := 0) (.t rfl) (by kernel_rfl)) ?_
          refine al1 17 rfl ((stv ty31 SConfFaults.l_l (.t rfl) (.t rfl) ?_))
          refine hdn (ovr (bN (pN (region (cons (opv (Ev.add_i (.t rfl) (.c (v := I 1) rfl) (fun _ => by omega)) ?_))))))
          refine cons (opv (Ev.move (.t rfl)) (nil (pN (next (X := Int × OV) (i + 1, _) ?_ ?_ (by repeat first | exact Sub.nil | refine Sub.cons rfl ?_) (by rw [hst]; (try rw [← List.append_assoc]); repeat first | exact sR | exact sN | apply sC | apply sS | apply sA)))))
          · try dsimp only
            omega
          · try dsimp only
            omega
        · refine (buildSlice (E := eFault) Tryz.underlying31 ty37 z37 (.cons (.t rfl) .nil) rfl rfl (fun v6 => ?_))
          refine hdn (al1 4 rfl ((opv (Ev.ldv ty31 (.t rfl) SConfFaults.l_l) ?_)))
          refine hdn (al1 14 rfl ((append (E := eFault) Tryz.underlying31 ty37 rfl zb37 zs37 (.t rfl) (.t rfl) (fun _ => by repeat first | exact Upd.head | apply Upd.tail | apply Upd.right) (by first | exact isSl_own (by repeat first | exact mH | apply mT | apply mA) | exact fun w I => IsSl.keep0 (by assumption) I.keeps) (⟨by (show _ ≤ 9223372036854775807); have := faultsUp_len (fun j0 : Nat => g (xs.getD j0 eRoute.zero) j0) d i.toNat; simp only [List.length_append, List.length_cons, List.length_nil]; omega, by have := faultsUp_len (fun j0 : Nat => g (xs.getD j0 eRoute.zero) j0) d i.toNat; simp only [List.length_append, List.length_cons, List.length_nil]; omega⟩) (fun v7 => ?_))))
          refine hdn (tk 15 rfl (Ev.nilCheck (.t rfl)) ?_)
          refine tk 16 rfl (Ev.fieldAddr (o := 0) (.t rfl) (by kernel_rfl)) ?_
          refine al1 17 rfl ((stv ty31 SConfFaults.l_l (.t rfl) (.t rfl) ?_))
          refine hdn (ovr (bN (pN (region (cons (opv (Ev.add_i (.t rfl) (.c (v := I 1) rfl) (fun _ => by omega)) ?_))))))
          refine cons (opv (Ev.move (.t rfl)) (nil (pN (next (X := Int × OV) (i + 1, _) ?_ ?_ (by repeat first | exact Sub.nil | refine Sub.cons rfl ?_) (by rw [hst]; (try rw [← List.append_assoc]); repeat first | exact sR | exact sN | apply sC | apply sS | apply sA)))))
          · try dsimp only
            omega
          · try dsimp only
            omega
    · try simp only [nb] at h1
      have ei : ((i.toNat : Nat) : Int) = i := by omega
      have hst := faultsUp_ok (e := (fun j0 : Nat => g (xs.getD j0 eRoute.zero) j0)) (d := d) hi.1 (by (try dsimp only); rw [ei]; exact h1)
      refine skip (bN (pN (region (cons (opv (Ev.add_i (.t rfl) (.c (v := I 1) rfl) (fun _ => by omega)) ?_)))))
      refine cons (opv (Ev.move (.t rfl)) (nil (pN (next (X := Int × OV) (i + 1, _) ?_ ?_ (by repeat first | exact Sub.nil | refine Sub.cons rfl ?_) (by rw [hst]; (try rw [← List.append_assoc]); repeat first | exact sR | exact sN | apply sC | apply sS | apply sA)))))
      · try dsimp only
        omega
      · try dsimp only
        omega
  · try simp only [nb] at h0
    refine exit (pX (pX (bX (pN (cut (X := OV) (fun x : OV => True) (fun x : OV => [(0, true, .pointer (some ⟨b, 0, none⟩)), (1, true, u)]) (fun x : OV => [Var b eConfFaults ⟨x, d⟩ 88, OwnS x.v eFault (fs ++ listG (fun j0 : Nat => g (xs.getD j0 eRoute.zero) j0) d xs.length most) 37]) ?_ (fun x hx => ?_))))))
    · refine seq (region ?_)
      have him : i.toNat = m := by omega
      rw [him]
      refine cons (opv (Ev.move (.t rfl)) (cons (opv (Ev.len Tryz.underlying23 (.t rfl) (fun w I => hxs w I.keeps)) ?_)))
      refine cons (opv (Ev.move (.t rfl)) (cons (opv (Ev.gtr_i (.t rfl) (.t rfl)) ?_)))
      refine nil (pN ?_)
      first | refine condD rfl (fun h2 => ?_) (fun h2 => ?_) | refine cond rfl (fun h2 => ?_) (fun h2 => ?_)
      · try simp only [nb] at h2
        refine draw [] (by kernel_rfl) ?_
        refine tk 0 rfl (Ev.move (.t rfl)) ?_
        refine tk 1 rfl (Ev.move (.t rfl)) ?_
        refine tk 2 rfl (Ev.nilCheck (.t rfl)) ?_
        refine tk 3 rfl (Ev.fieldAddr (o := 0) (.t rfl) (by kernel_rfl)) ?_
        refine tk 5 rfl (Ev.move (.t rfl)) ?_
        refine tk 6 rfl (Ev.nilCheck (.t rfl)) ?_
        refine tk 7 rfl (Ev.fieldAddr (o := 1) (.t rfl) (by kernel_rfl)) ?_
        refine tk 9 rfl (Ev.move (.t rfl)) ?_
        refine all [4, 8] (by kernel_rfl) (by decide) (.cons rfl ?_ (.cons rfl ?_ .nil))
        · refine (opv (Ev.ldv ty31 (.t rfl) SConfFaults.l_l) ?_)
          refine hdn (al1 8 rfl ((opv (Ev.ldv ty3 (.t rfl) SConfFaults.l_at_) ?_)))
          refine hdn (tk 10 rfl (Ev.add_i (.t rfl) (.t rfl) (fun _ => by simp; omega)) ?_)
          refine tk 11 rfl (Ev.buildS (fs := _) (places := [(0, 1), (1, 1)]) z37 rfl Tryz.underlying37 (by kernel_rfl) (.cons (.c (v := I 4) rfl) (.cons (.t rfl) .nil)) (Fills.cons SFault.l_code rfl (Fills.cons SFault.l_at_ rfl Fills.nil))) ?_
          refine al1 12 rfl ((buildSlice (E := eFault) Tryz.underlying31 ty37 z37 (.cons (.t rfl) .nil) rfl rfl (fun v8 => ?_)))
          refine hdn (al1 13 rfl ((append (E := eFault) Tryz.underlying31 ty37 rfl zb37 zs37 (.t rfl) (.t rfl) (fun _ => by repeat first | exact Upd.head | apply Upd.tail | apply Upd.right) (by first | exact isSl_own (by repeat first | exact mH | apply mT | apply mA) | exact fun w I => IsSl.keep0 (by assumption) I.keeps) (⟨by (show _ ≤ 9223372036854775807); have := faultsUp_len (fun j0 : Nat => g (xs.getD j0 eRoute.zero) j0) d m; simp only [List.length_append, List.length_cons, List.length_nil]; omega, by have := faultsUp_len (fun j0 : Nat => g (xs.getD j0 eRoute.zero) j0) d m; simp only [List.length_append, List.length_cons, List.length_nil]; omega⟩) (fun v9 => ?_))))
          refine hdn (tk 14 rfl (Ev.nilCheck (.t rfl)) ?_)
          refine tk 15 rfl (Ev.fieldAddr (o := 0) (.t rfl) (by kernel_rfl)) ?_
          refine al1 16 rfl ((stv ty31 SConfFaults.l_l (.t rfl) (.t rfl) ?_))
          refine hdn (ovr (pN (meet (X := OV) (_) trivial (by repeat first | exact Sub.nil | refine Sub.cons rfl ?_) (by unfold listG; rw [← hm2]; (first | rw [if_pos (by omega), ← List.append_assoc] | rw [if_neg (by omega), List.append_nil]); repeat first | exact sR | exact sN | apply sC | apply sS | apply sA))))
        · refine (opv (Ev.ldv ty3 (.t rfl) SConfFaults.l_at_) ?_)
          refine hdn (tk 10 rfl (Ev.add_i (.t rfl) (.t rfl) (fun _ => by simp; omega)) ?_)
          refine tk 11 rfl (Ev.buildS (fs := _) (places := [(0, 1), (1, 1)]) z37 rfl Tryz.underlying37 (by kernel_rfl) (.cons (.c (v := I 4) rfl) (.cons (.t rfl) .nil)) (Fills.cons SFault.l_code rfl (Fills.cons SFault.l_at_ rfl Fills.nil))) ?_
          refine all [4, 12] (by kernel_rfl) (by decide) (.cons rfl ?_ (.cons rfl ?_ .nil))
          · refine (opv (Ev.ldv ty31 (.t rfl) SConfFaults.l_l) ?_)
            refine hdn (al1 12 rfl ((buildSlice (E := eFault) Tryz.underlying31 ty37 z37 (.cons (.t rfl) .nil) rfl rfl (fun v10 => ?_))))
            refine hdn (al1 13 rfl ((append (E := eFault) Tryz.underlying31 ty37 rfl zb37 zs37 (.t rfl) (.t rfl) (fun _ => by repeat first | exact Upd.head | apply Upd.tail | apply Upd.right) (by first | exact isSl_own (by repeat first | exact mH | apply mT | apply mA) | exact fun w I => IsSl.keep0 (by assumption) I.keeps) (⟨by (show _ ≤ 9223372036854775807); have := faultsUp_len (fun j0 : Nat => g (xs.getD j0 eRoute.zero) j0) d m; simp only [List.length_append, List.length_cons, List.length_nil]; omega, by have := faultsUp_len (fun j0 : Nat => g (xs.getD j0 eRoute.zero) j0) d m; simp only [List.length_append, List.length_cons, List.length_nil]; omega⟩) (fun v11 => ?_))))
            refine hdn (tk 14 rfl (Ev.nilCheck (.t rfl)) ?_)
            refine tk 15 rfl (Ev.fieldAddr (o := 0) (.t rfl) (by kernel_rfl)) ?_
            refine al1 16 rfl ((stv ty31 SConfFaults.l_l (.t rfl) (.t rfl) ?_))
            refine hdn (ovr (pN (meet (X := OV) (_) trivial (by repeat first | exact Sub.nil | refine Sub.cons rfl ?_) (by unfold listG; rw [← hm2]; (first | rw [if_pos (by omega), ← List.append_assoc] | rw [if_neg (by omega), List.append_nil]); repeat first | exact sR | exact sN | apply sC | apply sS | apply sA))))
          · refine (buildSlice (E := eFault) Tryz.underlying31 ty37 z37 (.cons (.t rfl) .nil) rfl rfl (fun v12 => ?_))
            refine hdn (al1 4 rfl ((opv (Ev.ldv ty31 (.t rfl) SConfFaults.l_l) ?_)))
            refine hdn (al1 13 rfl ((append (E := eFault) Tryz.underlying31 ty37 rfl zb37 zs37 (.t rfl) (.t rfl) (fun _ => by repeat first | exact Upd.head | apply Upd.tail | apply Upd.right) (by first | exact isSl_own (by repeat first | exact mH | apply mT | apply mA) | exact fun w I => IsSl.keep0 (by assumption) I.keeps) (⟨by (show _ ≤ 9223372036854775807); have := faultsUp_len (fun j0 : Nat => g (xs.getD j0 eRoute.zero) j0) d m; simp only [List.length_append, List.length_cons, List.length_nil]; omega, by have := faultsUp_len (fun j0 : Nat => g (xs.getD j0 eRoute.zero) j0) d m; simp only [List.length_append, List.length_cons, List.length_nil]; omega⟩) (fun v13 => ?_))))
            refine hdn (tk 14 rfl (Ev.nilCheck (.t rfl)) ?_)
            refine tk 15 rfl (Ev.fieldAddr (o := 0) (.t rfl) (by kernel_rfl)) ?_
            refine al1 16 rfl ((stv ty31 SConfFaults.l_l (.t rfl) (.t rfl) ?_))
            refine hdn (ovr (pN (meet (X := OV) (_) trivial (by repeat first | exact Sub.nil | refine Sub.cons rfl ?_) (by unfold listG; rw [← hm2]; (first | rw [if_pos (by omega), ← List.append_assoc] | rw [if_neg (by omega), List.append_nil]); repeat first | exact sR | exact sN | apply sC | apply sS | apply sA))))
      · try simp only [nb] at h2
        refine skip (pN (meet (X := OV) (_) trivial (by repeat first | exact Sub.nil | refine Sub.cons rfl ?_) (by unfold listG; rw [← hm2]; (first | rw [if_pos (by omega), ← List.append_assoc] | rw [if_neg (by omega), List.append_nil]); repeat first | exact sR | exact sN | apply sC | apply sS | apply sA)))
    obtain ⟨q2, rfl⟩ : ∃ y, y = x := ⟨x, rfl⟩
    show Sat _ _ [(0, true, .pointer (some ⟨b, 0, none⟩)), (1, true, u)] [Var b eConfFaults ⟨q2, d⟩ 88, OwnS q2.v eFault (fs ++ listG (fun j0 : Nat => g (xs.getD j0 eRoute.zero) j0) d xs.length most) 37]
    refine region (cons (opv (Ev.move (.t rfl)) (cons (opv (Ev.nilCheck (.t rfl)) ?_))))
    refine cons (opv (Ev.fieldAddr (o := 1) (.t rfl) (by kernel_rfl)) ?_)
    refine cons (opv (Ev.ldv ty3 (.t rfl) SConfFaults.l_at_) ?_)
    refine cons (opv (Ev.move (.t rfl)) (cons (opv (Ev.len Tryz.underlying23 (.t rfl) (fun w I => hxs w I.keeps)) ?_)))
    refine cons (opv (Ev.add_i (.t rfl) (.t rfl) (fun _ => by simp; omega)) ?_)
    refine cons (opv (Ev.nilCheck (.t rfl)) ?_)
    refine cons (opv (Ev.fieldAddr (o := 1) (.t rfl) (by kernel_rfl)) ?_)
    refine cons (stv ty3 SConfFaults.l_at_ (.t rfl) (.t rfl) ?_)
    refine nil (done' rfl .nil (fun w I => ?_))
    exact retR (r' := fun o2 => FR b o2 (fs ++ listG (fun j0 : Nat => g (xs.getD j0 eRoute.zero) j0) d xs.length most) (d + xs.length)) _ trivial rfl (List.mem_singleton_self _) w (WInv.sepIn (I.sub (by repeat first | exact sR | exact sN | apply sC | apply sS | apply sA)))

theorem list_76 (f : Nat) (fst cap : List Value) (g : SRule → Int → Int) (D : SRule → Int → Prop) (b : Nat) (o : OV) (fs : List SFault) (d : Int) (u : Value) (xs : List SRule) (most : Nat) (w : World) (hen : Gx.Enters Tryz.prog f) (h : At (FR b o fs d) w) (hxs : ∀ w1, Keeps (FR b o fs d).foot w w1 → IsSl eRule w1 u xs) (hk : FnB2 Tryz.prog f fst cap (FR b o fs d).foot w eRule iE iE D g) (hD : ∀ i : Nat, i < xs.length → D (xs.getD i eRule.zero) i) (hd : 0 ≤ d ∧ d + xs.length ≤ 4611686018427387904) (hf : fs.length + most ≤ 100000) : Calls Tryz.prog 41 #[.pointer (some ⟨b, 0, none⟩), u, I most, (bnd f fst cap).v] w (RetR w (FR b o fs d) (fun _ : OV => True) (fun _ => .tuple #[]) (fun o2 => FR b o2 (fs ++ listG (fun j0 : Nat => g (xs.getD j0 eRule.zero) j0) d xs.length most) (d + xs.length))) := by
  obtain ⟨m, hm⟩ : ∃ m : Nat, (min (xs.length : Int) (most : Int)) = (m : Int) := ⟨min xs.length most, by omega⟩
  have hm2 : m = min xs.length most := by omega
  have hle := (hxs w (Keeps.refl _ _)).le
  have htl : (xs.take m).length = m := by simp; omega
  refine enter (FR b o fs d).foot 76 [FR b o fs d] Tryz.func41 rfl rfl (Nat.le_of_ble_eq_true rfl) (start_at h) ?_
  refine sepOut Rem.head ?_
  refine seq (seq (region (cons (opv (Ev.move (.t rfl)) (cons (opv (Ev.move (.t rfl)) (cons (opv (Ev.len Tryz.underlying24 (.t rfl) (fun w I => hxs w I.keeps)) ?_))))))))
  refine cons (opv (Ev.move (.t rfl)) (cons (opv (Ev.to (v' := I ((m : Nat) : Int)) (Ev.min_i (.t rfl) (.t rfl)) (by rw [hm])) ?_)))
  refine cons (opv (Ev.sliceH Tryz.underlying24 ty76 (.t rfl) (.t rfl) (fun w I => hxs w I.keeps) (fun _ => by omega)) ?_)
  refine cons (opv (Ev.len Tryz.underlying24 (.t rfl) (fun w I => by have := (hxs w I.keeps).sub (l := 0) (k := m) (by omega) (by omega); simpa using this)) ?_)
  refine cons (opv (Ev.move (.c (v := I 0) rfl)) ?_)
  refine nil (pN (block (loop (X := Int × OV) (fun x : Int × OV => (0 ≤ x.1 ∧ x.1 ≤ m)) (fun x : Int × OV => [(0, true, .pointer (some ⟨b, 0, none⟩)), (1, true, u), (2, true, I most), (3, true, (bnd f fst cap).v), (16, true, subS eRule.size u 0 m), (17, true, I (xs.take m).length), (18, true, I x.1)]) (fun x : Int × OV => [Var b eConfFaults ⟨x.2, d⟩ 88, OwnS x.2.v eFault (fs ++ faultsUp (fun j0 : Nat => g (xs.getD j0 eRule.zero) j0) d x.1.toNat) 37]) (fun x : Int × OV => ((m : Int) - x.1).toNat) (0, o) ?_ (by repeat first | exact Sub.nil | refine Sub.cons rfl ?_) (by simp only [show (0 : Int).toNat = 0 from rfl, faultsUp, List.append_nil]; repeat first | exact sR | exact sN | apply sC | apply sS | apply sA) (fun x hx => ?_))))
  · omega
  obtain ⟨i, q⟩ := x
  have hi : 0 ≤ i ∧ i ≤ m := hx
  clear hx
  show Sat _ _ [(0, true, .pointer (some ⟨b, 0, none⟩)), (1, true, u), (2, true, I most), (3, true, (bnd f fst cap).v), (16, true, subS eRule.size u 0 m), (17, true, I (xs.take m).length), (18, true, I i)] [Var b eConfFaults ⟨q, d⟩ 88, OwnS q.v eFault (fs ++ faultsUp (fun j0 : Nat => g (xs.getD j0 eRule.zero) j0) d i.toNat) 37]
  refine seq (region (cons (opv (Ev.lss_i (.t rfl) (.t rfl)) ?_)))
  refine nil (pN (seq ?_))
  first | refine condD rfl (fun h0 => ?_) (fun h0 => ?_) | refine cond rfl (fun h0 => ?_) (fun h0 => ?_)
  · try simp only [nb] at h0
    refine skip (pN (seq (block (seq (region (cons (opv (Ev.move (.t rfl)) (cons (opv (Ev.indexAddr Tryz.underlying24 ty76 (.t rfl) (.t rfl) (fun w I => by have := (hxs w I.keeps).sub (l := 0) (k := m) (by omega) (by omega); simpa using this) (fun _ => by omega)) ?_)))))))))
    refine cons (opv (Ev.to (v' := eRule.val (xs.getD i.toNat eRule.zero)) (Ev.loadS0 ty76 (.t rfl) (fun w I => by have := (hxs w I.keeps).sub (l := 0) (k := m) (by omega) (by omega); simpa using this) (fun _ => by omega)) (congrArg eRule.val (getD_take'' xs m i.toNat _ (by omega)))) ?_)
    refine cons (alloc z76 (fun b1 => ?_))
    refine cons (opv (Ev.assign (.t rfl)) (cons (stv ty76 (Lens.id _) (.t rfl) (.t rfl) ?_)))
    refine nil (pN (seq (region (cons (opv (Ev.move (.t rfl)) (cons (opv (Ev.ldv ty76 (.t rfl) (Lens.id _)) ?_)))))))
    refine cons (opv (Ev.move (.t rfl)) (cons (callbv (.t rfl) hen (.cons (.t rfl) (.cons (.t rfl) .nil)) (fun w I => hk (xs.getD i.toNat eRule.zero) i w (by have := hD i.toNat (by omega); rwa [show ((i.toNat : Nat) : Int) = i by omega] at this) I.keeps) ?_)))
    refine cons (opv (Ev.assign (.t rfl)) (nil (pN (seq (region (cons (opv (Ev.move (.t rfl)) (cons (opv (Ev.neq_i (.t rfl) (.c (v := I 0) rfl)) ?_)))))))))
    refine nil (pN ?_)
    first | refine condD rfl (fun h1 => ?_) (fun h1 => ?_) | refine cond rfl (fun h1 => ?_) (fun h1 => ?_)
    · try simp only [nb] at h1
      have ei : ((i.toNat : Nat) : Int) = i := by omega
      have hst := faultsUp_bad (e := (fun j0 : Nat => g (xs.getD j0 eRule.zero) j0)) (d := d) hi.1 (by (try dsimp only); rw [ei]; exact h1)
      (try dsimp only at hst)
      rw [ei] at hst
      refine draw [] (by kernel_rfl) ?_
      refine tk 0 rfl (Ev.move (.t rfl)) ?_
      refine tk 1 rfl (Ev.move (.t rfl)) ?_
      refine tk 2 rfl (Ev.nilCheck (.t rfl)) ?_
      refine tk 3 rfl (Ev.fieldAddr (o := 0) (.t rfl) (by kernel_rfl)) ?_
      refine tk 5 rfl (Ev.move (.t rfl)) ?_
      refine tk 6 rfl (Ev.move (.t rfl)) ?_
      refine tk 7 rfl (Ev.nilCheck (.t rfl)) ?_
      refine tk 8 rfl (Ev.fieldAddr (o := 1) (.t rfl) (by kernel_rfl)) ?_
      refine tk 10 rfl (Ev.move (.t rfl)) ?_
      refine all [4, 9] (by kernel_rfl) (by decide) (.cons rfl ?_ (.cons rfl ?_ .nil))
      · refine (opv (Ev.ldv ty31 (.t rfl) SConfFaults.l_l) ?_)
        refine hdn (al1 9 rfl ((opv (Ev.ldv ty3 (.t rfl) SConfFaults.l_at_) ?_)))
        refine hdn (tk 11 rfl (Ev.add_i (.t rfl) (.t rfl) (fun _ => by simp; omega)) ?_)
        refine tk 12 rfl (Ev.buildS (fs := _) (places := [(0, 1), (1, 1)]) z37 rfl Tryz.underlying37 (by kernel_rfl) (.cons (.t rfl) (.cons (.t rfl) .nil)) (Fills.cons SFault.l_code rfl (Fills.cons SFault.l_at_ rfl Fills.nil))) ?_
        refine al1 13 rfl ((buildSlice (E := eFault) Tryz.underlying31 ty37 z37 (.cons (.t rfl) .nil) rfl rfl (fun v2 => ?_)))
        refine hdn (al1 14 rfl ((append (E := eFault) Tryz.underlying31 ty37 rfl zb37 zs37 (.t rfl) (.t rfl) (fun _ => by repeat first | exact Upd.head | apply Upd.tail | apply Upd.right) (by first | exact isSl_own (by repeat first | exact mH | apply mT | apply mA) | exact fun w I => IsSl.keep0 (by assumption) I.keeps) (⟨by (show _ ≤ 9223372036854775807); have := faultsUp_len (fun j0 : Nat => g (xs.getD j0 eRule.zero) j0) d i.toNat; simp only [List.length_append, List.length_cons, List.length_nil]; omega, by have := faultsUp_len (fun j0 : Nat => g (xs.getD j0 eRule.zero) j0) d i.toNat; simp only [List.length_append, List.length_cons, List.length_nil]; omega⟩) (fun v3 => ?_))))
        refine hdn (tk 15 rfl (Ev.nilCheck (.t rfl)) ?_)
        refine tk 16 rfl (Ev.fieldAddr (o := 0) (.t rfl) (by kernel_rfl)) ?_
        refine al1 17 rfl ((stv ty31 SConfFaults.l_l (.t rfl) (.t rfl) ?_))
        refine hdn (ovr (bN (pN (region (cons (opv (Ev.add_i (.t rfl) (.c (v := I 1) rfl) (fun _ => by omega)) ?_))))))
        refine cons (opv (Ev.move (.t rfl)) (nil (pN (next (X := Int × OV) (i + 1, _) ?_ ?_ (by repeat first | exact Sub.nil | refine Sub.cons rfl ?_) (by rw [hst]; (try rw [← List.append_assoc]); repeat first | exact sR | exact sN | apply sC | apply sS | apply sA)))))
        · try dsimp only
          omega
        · try dsimp only
          omega
      · refine (opv (Ev.ldv ty3 (.t rfl) SConfFaults.l_at_) ?_)
        refine hdn (tk 11 rfl (Ev.add_i (.t rfl) (.t rfl) (fun _ => by simp; omega)) ?_)
        refine tk 12 rfl (Ev.buildS (fs := _) (places := [(0, 1), (1, 1)]) z37 rfl Tryz.underlying37 (by kernel_rfl) (.cons (.t rfl) (.cons (.t rfl) .nil)) (Fills.cons SFault.l_code rfl (Fills.cons SFault.l_at_ rfl Fills.nil))) ?_
        refine all [4, 13] (by kernel_rfl) (by decide) (.cons rfl ?_ (.cons rfl ?_ .nil))
        · refine (opv (Ev.ldv ty31 (.t rfl) SConfFaults.l_l) ?_)
          refine hdn (al1 13 rfl ((buildSlice (E := eFault) Tryz.underlying31 ty37 z37 (.cons (.t rfl) .nil) rfl rfl (fun v4 => ?_))))
          refine hdn (al1 14 rfl ((append (E := eFault) Tryz.underlying31 ty37 rfl zb37 zs37 (.t rfl) (.t rfl) (fun _ => by repeat first | exact Upd.head | apply Upd.tail | apply Upd.right) (by first | exact isSl_own (by repeat first | exact mH | apply mT | apply mA) | exact fun w I => IsSl.keep0 (by assumption) I.keeps) (⟨by (show _ ≤ 9223372036854775807); have := faultsUp_len (fun j0 : Nat => g (xs.getD j0 eRule.zero) j0) d i.toNat; simp only [List.length_append, List.length_cons, List.length_nil]; omega, by have := faultsUp_len (fun j0 : Nat => g (xs.getD j0 eRule.zero) j0) d i.toNat; simp only [List.length_append, List.length_cons, List.length_nil]; omega⟩) (fun v5 => ?_))))
          refine hdn (tk 15 rfl (Ev.nilCheck (.t rfl)) ?_)
          refine tk 16 rfl (Ev.fieldAddr (o := 0) (.t rfl) (by kernel_rfl)) ?_
          refine al1 17 rfl ((stv ty31 SConfFaults.l_l (.t rfl) (.t rfl) ?_))
          refine hdn (ovr (bN (pN (region (cons (opv (Ev.add_i (.t rfl) (.c (v := I 1) rfl) (fun _ => by omega)) ?_))))))
          refine cons (opv (Ev.move (.t rfl)) (nil (pN (next (X := Int × OV) (i + 1, _) ?_ ?_ (by repeat first | exact Sub.nil | refine Sub.cons rfl ?_) (by rw [hst]; (try rw [← List.append_assoc]); repeat first | exact sR | exact sN | apply sC | apply sS | apply sA)))))
          · try dsimp only
            omega
          · try dsimp only
            omega
        · refine (buildSlice (E := eFault) Tryz.underlying31 ty37 z37 (.cons (.t rfl) .nil) rfl rfl (fun v6 => ?_))
          refine hdn (al1 4 rfl ((opv (Ev.ldv ty31 (.t rfl) SConfFaults.l_l) ?_)))
          refine hdn (al1 14 rfl ((append (E := eFault) Tryz.underlying31 ty37 rfl zb37 zs37 (.t rfl) (.t rfl) (fun _ => by repeat first | exact Upd.head | apply Upd.tail | apply Upd.right) (by first | exact isSl_own (by repeat first | exact mH | apply mT | apply mA) | exact fun w I => IsSl.keep0 (by assumption) I.keeps) (⟨by (show _ ≤ 9223372036854775807); have := faultsUp_len (fun j0 : Nat => g (xs.getD j0 eRule.zero) j0) d i.toNat; simp only [List.length_append, List.length_cons, List.length_nil]; omega, by have := faultsUp_len (fun j0 : Nat => g (xs.getD j0 eRule.zero) j0) d i.toNat; simp only [List.length_append, List.length_cons, List.length_nil]; omega⟩) (fun v7 => ?_))))
          refine hdn (tk 15 rfl (Ev.nilCheck (.t rfl)) ?_)
          refine tk 16 rfl (Ev.fieldAddr (o := 0) (.t rfl) (by kernel_rfl)) ?_
          refine al1 17 rfl ((stv ty31 SConfFaults.l_l (.t rfl) (.t rfl) ?_))
          refine hdn (ovr (bN (pN (region (cons (opv (Ev.add_i (.t rfl) (.c (v := I 1) rfl) (fun _ => by omega)) ?_))))))
          refine cons (opv (Ev.move (.t rfl)) (nil (pN (next (X := Int × OV) (i + 1, _) ?_ ?_ (by repeat first | exact Sub.nil | refine Sub.cons rfl ?_) (by rw [hst]; (try rw [← List.append_assoc]); repeat first | exact sR | exact sN | apply sC | apply sS | apply sA)))))
          · try dsimp only
            omega
          · try dsimp only
            omega
    · try simp only [nb] at h1
      have ei : ((i.toNat : Nat) : Int) = i := by omega
      have hst := faultsUp_ok (e := (fun j0 : Nat => g (xs.getD j0 eRule.zero) j0)) (d := d) hi.1 (by (try dsimp only); rw [ei]; exact h1)
      refine skip (bN (pN (region (cons (opv (Ev.add_i (.t rfl) (.c (v := I 1) rfl) (fun _ => by omega)) ?_)))))
      refine cons (opv (Ev.move (.t rfl)) (nil (pN (next (X := Int × OV) (i + 1, _) ?_ ?_ (by repeat first | exact Sub.nil | refine Sub.cons rfl ?_) (by rw [hst]; (try rw [← List.append_assoc]); repeat first | exact sR | exact sN | apply sC | apply sS | apply sA)))))
      · try dsimp only
        omega
      · try dsimp only
        omega
  · try simp only [nb] at h0
    refine exit (pX (pX (bX (pN (cut (X := OV) (fun x : OV => True) (fun x : OV => [(0, true, .pointer (some ⟨b, 0, none⟩)), (1, true, u)]) (fun x : OV => [Var b eConfFaults ⟨x, d⟩ 88, OwnS x.v eFault (fs ++ listG (fun j0 : Nat => g (xs.getD j0 eRule.zero) j0) d xs.length most) 37]) ?_ (fun x hx => ?_))))))
    · refine seq (region ?_)
      have him : i.toNat = m := by omega
      rw [him]
      refine cons (opv (Ev.move (.t rfl)) (cons (opv (Ev.len Tryz.underlying24 (.t rfl) (fun w I => hxs w I.keeps)) ?_)))
      refine cons (opv (Ev.move (.t rfl)) (cons (opv (Ev.gtr_i (.t rfl) (.t rfl)) ?_)))
      refine nil (pN ?_)
      first | refine condD rfl (fun h2 => ?_) (fun h2 => ?_) | refine cond rfl (fun h2 => ?_) (fun h2 => ?_)
      · try simp only [nb] at h2
        refine draw [] (by kernel_rfl) ?_
        refine tk 0 rfl (Ev.move (.t rfl)) ?_
        refine tk 1 rfl (Ev.move (.t rfl)) ?_
        refine tk 2 rfl (Ev.nilCheck (.t rfl)) ?_
        refine tk 3 rfl (Ev.fieldAddr (o := 0) (.t rfl) (by kernel_rfl)) ?_
        refine tk 5 rfl (Ev.move (.t rfl)) ?_
        refine tk 6 rfl (Ev.nilCheck (.t rfl)) ?_
        refine tk 7 rfl (Ev.fieldAddr (o := 1) (.t rfl) (by kernel_rfl)) ?_
        refine tk 9 rfl (Ev.move (.t rfl)) ?_
        refine all [4, 8] (by kernel_rfl) (by decide) (.cons rfl ?_ (.cons rfl ?_ .nil))
        · refine (opv (Ev.ldv ty31 (.t rfl) SConfFaults.l_l) ?_)
          refine hdn (al1 8 rfl ((opv (Ev.ldv ty3 (.t rfl) SConfFaults.l_at_) ?_)))
          refine hdn (tk 10 rfl (Ev.add_i (.t rfl) (.t rfl) (fun _ => by simp; omega)) ?_)
          refine tk 11 rfl (Ev.buildS (fs := _) (places := [(0, 1), (1, 1)]) z37 rfl Tryz.underlying37 (by kernel_rfl) (.cons (.c (v := I 4) rfl) (.cons (.t rfl) .nil)) (Fills.cons SFault.l_code rfl (Fills.cons SFault.l_at_ rfl Fills.nil))) ?_
          refine al1 12 rfl ((buildSlice (E := eFault) Tryz.underlying31 ty37 z37 (.cons (.t rfl) .nil) rfl rfl (fun v8 => ?_)))
          refine hdn (al1 13 rfl ((append (E := eFault) Tryz.underlying31 ty37 rfl zb37 zs37 (.t rfl) (.t rfl) (fun _ => by repeat first | exact Upd.head | apply Upd.tail | apply Upd.right) (by first | exact isSl_own (by repeat first | exact mH | apply mT | apply mA) | exact fun w I => IsSl.keep0 (by assumption) I.keeps) (⟨by (show _ ≤ 9223372036854775807); have := faultsUp_len (fun j0 : Nat => g (xs.getD j0 eRule.zero) j0) d m; simp only [List.length_append, List.length_cons, List.length_nil]; omega, by have := faultsUp_len (fun j0 : Nat => g (xs.getD j0 eRule.zero) j0) d m; simp only [List.length_append, List.length_cons, List.length_nil]; omega⟩) (fun v9 => ?_))))
          refine hdn (tk 14 rfl (Ev.nilCheck (.t rfl)) ?_)
          refine tk 15 rfl (Ev.fieldAddr (o := 0) (.t rfl) (by kernel_rfl)) ?_
          refine al1 16 rfl ((stv ty31 SConfFaults.l_l (.t rfl) (.t rfl) ?_))
          refine hdn (ovr (pN (meet (X := OV) (_) trivial (by repeat first | exact Sub.nil | refine Sub.cons rfl ?_) (by unfold listG; rw [← hm2]; (first | rw [if_pos (by omega), ← List.append_assoc] | rw [if_neg (by omega), List.append_nil]); repeat first | exact sR | exact sN | apply sC | apply sS | apply sA))))
        · refine (opv (Ev.ldv ty3 (.t rfl) SConfFaults.l_at_) ?_)
          refine hdn (tk 10 rfl (Ev.add_i (.t rfl) (.t rfl) (fun _ => by simp; omega)) ?_)
          refine tk 11 rfl (Ev.buildS (fs := _) (places := [(0, 1), (1, 1)]) z37 rfl Tryz.underlying37 (by kernel_rfl) (.cons (.c (v := I 4) rfl) (.cons (.t rfl) .nil)) (Fills.cons SFault.l_code rfl (Fills.cons SFault.l_at_ rfl Fills.nil))) ?_
          refine all [4, 12] (by kernel_rfl) (by decide) (.cons rfl ?_ (.cons rfl ?_ .nil))
          · refine (opv (Ev.ldv ty31 (.t rfl) SConfFaults.l_l) ?_)
            refine hdn (al1 12 rfl ((buildSlice (E := eFault) Tryz.underlying31 ty37 z37 (.cons (.t rfl) .nil) rfl rfl (fun v10 => ?_))))
            refine hdn (al1 13 rfl ((append (E := eFault) Tryz.underlying31 ty37 rfl zb37 zs37 (.t rfl) (.t rfl) (fun _ => by repeat first | exact Upd.head | apply Upd.tail | apply Upd.right) (by first | exact isSl_own (by repeat first | exact mH | apply mT | apply mA) | exact fun w I => IsSl.keep0 (by assumption) I.keeps) (⟨by (show _ ≤ 9223372036854775807); have := faultsUp_len (fun j0 : Nat => g (xs.getD j0 eRule.zero) j0) d m; simp only [List.length_append, List.length_cons, List.length_nil]; omega, by have := faultsUp_len (fun j0 : Nat => g (xs.getD j0 eRule.zero) j0) d m; simp only [List.length_append, List.length_cons, List.length_nil]; omega⟩) (fun v11 => ?_))))
            refine hdn (tk 14 rfl (Ev.nilCheck (.t rfl)) ?_)
            refine tk 15 rfl (Ev.fieldAddr (o := 0) (.t rfl) (by kernel_rfl)) ?_
            refine al1 16 rfl ((stv ty31 SConfFaults.l_l (.t rfl) (.t rfl) ?_))
            refine hdn (ovr (pN (meet (X := OV) (_) trivial (by repeat first | exact Sub.nil | refine Sub.cons rfl ?_) (by unfold listG; rw [← hm2]; (first | rw [if_pos (by omega), ← List.append_assoc] | rw [if_neg (by omega), List.append_nil]); repeat first | exact sR | exact sN | apply sC | apply sS | apply sA))))
          · refine (buildSlice (E := eFault) Tryz.underlying31 ty37 z37 (.cons (.t rfl) .nil) rfl rfl (fun v12 => ?_))
            refine hdn (al1 4 rfl ((opv (Ev.ldv ty31 (.t rfl) SConfFaults.l_l) ?_)))
            refine hdn (al1 13 rfl ((append (E := eFault) Tryz.underlying31 ty37 rfl zb37 zs37 (.t rfl) (.t rfl) (fun _ => by repeat first | exact Upd.head | apply Upd.tail | apply Upd.right) (by first | exact isSl_own (by repeat first | exact mH | apply mT | apply mA) | exact fun w I => IsSl.keep0 (by assumption) I.keeps) (⟨by (show _ ≤ 9223372036854775807); have := faultsUp_len (fun j0 : Nat => g (xs.getD j0 eRule.zero) j0) d m; simp only [List.length_append, List.length_cons, List.length_nil]; omega, by have := faultsUp_len (fun j0 : Nat => g (xs.getD j0 eRule.zero) j0) d m; simp only [List.length_append, List.length_cons, List.length_nil]; omega⟩) (fun v13 => ?_))))
            refine hdn (tk 14 rfl (Ev.nilCheck (.t rfl)) ?_)
            refine tk 15 rfl (Ev.fieldAddr (o := 0) (.t rfl) (by kernel_rfl)) ?_
            refine al1 16 rfl ((stv ty31 SConfFaults.l_l (.t rfl) (.t rfl) ?_))
            refine hdn (ovr (pN (meet (X := OV) (_) trivial (by repeat first | exact Sub.nil | refine Sub.cons rfl ?_) (by unfold listG; rw [← hm2]; (first | rw [if_pos (by omega), ← List.append_assoc] | rw [if_neg (by omega), List.append_nil]); repeat first | exact sR | exact sN | apply sC | apply sS | apply sA))))
      · try simp only [nb] at h2
        refine skip (pN (meet (X := OV) (_) trivial (by repeat first | exact Sub.nil | refine Sub.cons rfl ?_) (by unfold listG; rw [← hm2]; (first | rw [if_pos (by omega), ← List.append_assoc] | rw [if_neg (by omega), List.append_nil]); repeat first | exact sR | exact sN | apply sC | apply sS | apply sA)))
    obtain ⟨q2, rfl⟩ : ∃ y, y = x := ⟨x, rfl⟩
    show Sat _ _ [(0, true, .pointer (some ⟨b, 0, none⟩)), (1, true, u)] [Var b eConfFaults ⟨q2, d⟩ 88, OwnS q2.v eFault (fs ++ listG (fun j0 : Nat => g (xs.getD j0 eRule.zero) j0) d xs.length most) 37]
    refine region (cons (opv (Ev.move (.t rfl)) (cons (opv (Ev.nilCheck (.t rfl)) ?_))))
    refine cons (opv (Ev.fieldAddr (o := 1) (.t rfl) (by kernel_rfl)) ?_)
    refine cons (opv (Ev.ldv ty3 (.t rfl) SConfFaults.l_at_) ?_)
    refine cons (opv (Ev.move (.t rfl)) (cons (opv (Ev.len Tryz.underlying24 (.t rfl) (fun w I => hxs w I.keeps)) ?_)))
    refine cons (opv (Ev.add_i (.t rfl) (.t rfl) (fun _ => by simp; omega)) ?_)
    refine cons (opv (Ev.nilCheck (.t rfl)) ?_)
    refine cons (opv (Ev.fieldAddr (o := 1) (.t rfl) (by kernel_rfl)) ?_)
    refine cons (stv ty3 SConfFaults.l_at_ (.t rfl) (.t rfl) ?_)
    refine nil (done' rfl .nil (fun w I => ?_))
    exact retR (r' := fun o2 => FR b o2 (fs ++ listG (fun j0 : Nat => g (xs.getD j0 eRule.zero) j0) d xs.length most) (d + xs.length)) _ trivial rfl (List.mem_singleton_self _) w (WInv.sepIn (I.sub (by repeat first | exact sR | exact sN | apply sC | apply sS | apply sA)))

theorem list_57 (f : Nat) (fst cap : List Value) (g : SMeterConf → Int → Int) (D : SMeterConf → Int → Prop) (b : Nat) (o : OV) (fs : List SFault) (d : Int) (u : Value) (xs : List SMeterConf) (most : Nat) (w : World) (hen : Gx.Enters Tryz.prog f) (h : At (FR b o fs d) w) (hxs : ∀ w1, Keeps (FR b o fs d).foot w w1 → IsSl eMeterConf w1 u xs) (hk : FnB2 Tryz.prog f fst cap (FR b o fs d).foot w eMeterConf iE iE D g) (hD : ∀ i : Nat, i < xs.length → D (xs.getD i eMeterConf.zero) i) (hd : 0 ≤ d ∧ d + xs.length ≤ 4611686018427387904) (hf : fs.length + most ≤ 100000) : Calls Tryz.prog 43 #[.pointer (some ⟨b, 0, none⟩), u, I most, (bnd f fst cap).v] w (RetR w (FR b o fs d) (fun _ : OV => True) (fun _ => .tuple #[]) (fun o2 => FR b o2 (fs ++ listG (fun j0 : Nat => g (xs.getD j0 eMeterConf.zero) j0) d xs.length most) (d + xs.length))) := by
  obtain ⟨m, hm⟩ : ∃ m : Nat, (min (xs.length : Int) (most : Int)) = (m : Int) := ⟨min xs.length most, by omega⟩
  have hm2 : m = min xs.length most := by omega
  have hle := (hxs w (Keeps.refl _ _)).le
  have htl : (xs.take m).length = m := by simp; omega
  refine enter (FR b o fs d).foot 76 [FR b o fs d] Tryz.func43 rfl rfl (Nat.le_of_ble_eq_true rfl) (start_at h) ?_
  refine sepOut Rem.head ?_
  refine seq (seq (region (cons (opv (Ev.move (.t rfl)) (cons (opv (Ev.move (.t rfl)) (cons (opv (Ev.len Tryz.underlying25 (.t rfl) (fun w I => hxs w I.keeps)) ?_))))))))
  refine cons (opv (Ev.move (.t rfl)) (cons (opv (Ev.to (v' := I ((m : Nat) : Int)) (Ev.min_i (.t rfl) (.t rfl)) (by rw [hm])) ?_)))
  refine cons (opv (Ev.sliceH Tryz.underlying25 ty57 (.t rfl) (.t rfl) (fun w I => hxs w I.keeps) (fun _ => by omega)) ?_)
  refine cons (opv (Ev.len Tryz.underlying25 (.t rfl) (fun w I => by have := (hxs w I.keeps).sub (l := 0) (k := m) (by omega) (by omega); simpa using this)) ?_)
  refine cons (opv (Ev.move (.c (v := I 0) rfl)) ?_)
  refine nil (pN (block (loop (X := Int × OV) (fun x : Int × OV => (0 ≤ x.1 ∧ x.1 ≤ m)) (fun x : Int × OV => [(0, true, .pointer (some ⟨b, 0, none⟩)), (1, true, u), (2, true, I most), (3, true, (bnd f fst cap).v), (16, true, subS eMeterConf.size u 0 m), (17, true, I (xs.take m).length), (18, true, I x.1)]) (fun x : Int × OV => [Var b eConfFaults ⟨x.2, d⟩ 88, OwnS x.2.v eFault (fs ++ faultsUp (fun j0 : Nat => g (xs.getD j0 eMeterConf.zero) j0) d x.1.toNat) 37]) (fun x : Int × OV => ((m : Int) - x.1).toNat) (0, o) ?_ (by repeat first | exact Sub.nil | refine Sub.cons rfl ?_) (by simp only [show (0 : Int).toNat = 0 from rfl, faultsUp, List.append_nil]; repeat first | exact sR | exact sN | apply sC | apply sS | apply sA) (fun x hx => ?_))))
  · omega
  obtain ⟨i, q⟩ := x
  have hi : 0 ≤ i ∧ i ≤ m := hx
  clear hx
  show Sat _ _ [(0, true, .pointer (some ⟨b, 0, none⟩)), (1, true, u), (2, true, I most), (3, true, (bnd f fst cap).v), (16, true, subS eMeterConf.size u 0 m), (17, true, I (xs.take m).length), (18, true, I i)] [Var b eConfFaults ⟨q, d⟩ 88, OwnS q.v eFault (fs ++ faultsUp (fun j0 : Nat => g (xs.getD j0 eMeterConf.zero) j0) d i.toNat) 37]
  refine seq (region (cons (opv (Ev.lss_i (.t rfl) (.t rfl)) ?_)))
  refine nil (pN (seq ?_))
  first | refine condD rfl (fun h0 => ?_) (fun h0 => ?_) | refine cond rfl (fun h0 => ?_) (fun h0 => ?_)
  · try simp only [nb] at h0
    refine skip (pN (seq (block (seq (region (cons (opv (Ev.move (.t rfl)) (cons (opv (Ev.indexAddr Tryz.underlying25 ty57 (.t rfl) (.t rfl) (fun w I => by have := (hxs w I.keeps).sub (l := 0) (k := m) (by omega) (by omega); simpa using this) (fun _ => by omega)) ?_)))))))))
    refine cons (opv (Ev.to (v' := eMeterConf.val (xs.getD i.toNat eMeterConf.zero)) (Ev.loadS0 ty57 (.t rfl) (fun w I => by have := (hxs w I.keeps).sub (l := 0) (k := m) (by omega) (by omega); simpa using this) (fun _ => by omega)) (congrArg eMeterConf.val (getD_take'' xs m i.toNat _ (by omega)))) ?_)
    refine cons (alloc z57 (fun b1 => ?_))
    refine cons (opv (Ev.assign (.t rfl)) (cons (stv ty57 (Lens.id _) (.t rfl) (.t rfl) ?_)))
    refine nil (pN (seq (region (cons (opv (Ev.move (.t rfl)) (cons (opv (Ev.ldv ty57 (.t rfl) (Lens.id _)) ?_)))))))
    refine cons (opv (Ev.move (.t rfl)) (cons (callbv (.t rfl) hen (.cons (.t rfl) (.cons (.t rfl) .nil)) (fun w I => hk (xs.getD i.toNat eMeterConf.zero) i w (by have := hD i.toNat (by omega); rwa [show ((i.toNat : Nat) : Int) = i by omega] at this) I.keeps) ?_)))
    refine cons (opv (Ev.assign (.t rfl)) (nil (pN (seq (region (cons (opv (Ev.move (.t rfl)) (cons (opv (Ev.neq_i (.t rfl) (.c (v := I 0) rfl)) ?_)))))))))
    refine nil (pN ?_)
    first | refine condD rfl (fun h1 => ?_) (fun h1 => ?_) | refine cond rfl (fun h1 => ?_) (fun h1 => ?_)
    · try simp only [nb] at h1
      have ei : ((i.toNat : Nat) : Int) = i := by omega
      have hst := faultsUp_bad (e := (fun j0 : Nat => g (xs.getD j0 eMeterConf.zero) j0)) (d := d) hi.1 (by (try dsimp only); rw [ei]; exact h1)
      (try dsimp only at hst)
      rw [ei] at hst
      refine draw [] (by kernel_rfl) ?_
      refine tk 0 rfl (Ev.move (.t rfl)) ?_
      refine tk 1 rfl (Ev.move (.t rfl)) ?_
      refine tk 2 rfl (Ev.nilCheck (.t rfl)) ?_
      refine tk 3 rfl (Ev.fieldAddr (o := 0) (.t rfl) (by kernel_rfl)) ?_
      refine tk 5 rfl (Ev.move (.t rfl)) ?_
      refine tk 6 rfl (Ev.move (.t rfl)) ?_
      refine tk 7 rfl (Ev.nilCheck (.t rfl)) ?_
      refine tk 8 rfl (Ev.fieldAddr (o := 1) (.t rfl) (by kernel_rfl)) ?_
      refine tk 10 rfl (Ev.move (.t rfl)) ?_
      refine all [4, 9] (by kernel_rfl) (by decide) (.cons rfl ?_ (.cons rfl ?_ .nil))
      · refine (opv (Ev.ldv ty31 (.t rfl) SConfFaults.l_l) ?_)
        refine hdn (al1 9 rfl ((opv (Ev.ldv ty3 (.t rfl) SConfFaults.l_at_) ?_)))
        refine hdn (tk 11 rfl (Ev.add_i (.t rfl) (.t rfl) (fun _ => by simp; omega)) ?_)
        refine tk 12 rfl (Ev.buildS (fs := _) (places := [(0, 1), (1, 1)]) z37 rfl Tryz.underlying37 (by kernel_rfl) (.cons (.t rfl) (.cons (.t rfl) .nil)) (Fills.cons SFault.l_code rfl (Fills.cons SFault.l_at_ rfl Fills.nil))) ?_
        refine al1 13 rfl ((buildSlice (E := eFault) Tryz.underlying31 ty37 z37 (.cons (.t rfl) .nil) rfl rfl (fun v2 => ?_)))
        refine hdn (al1 14 rfl ((append (E := eFault) Tryz.underlying31 ty37 rfl zb37 zs37 (.t rfl) (.t rfl) (fun _ => by repeat first | exact Upd.head | apply Upd.tail | apply Upd.right) (by first | exact isSl_own (by repeat first | exact mH | apply mT | apply mA) | exact fun w I => IsSl.keep0 (by assumption) I.keeps) (⟨by (show _ ≤ 9223372036854775807); have := faultsUp_len (fun j0 : Nat => g (xs.getD j0 eMeterConf.zero) j0) d i.toNat; simp only [List.length_append, List.length_cons, List.length_nil]; omega, by have := faultsUp_len (fun j0 : Nat => g (xs.getD j0 eMeterConf.zero) j0) d i.toNat; simp only [List.length_append, List.length_cons, List.length_nil]; omega⟩) (fun v3 => ?_))))
        refine hdn (tk 15 rfl (Ev.nilCheck (.t rfl)) ?_)
        refine tk 16 rfl (Ev.fieldAddr (o := 0) (.t rfl) (by kernel_rfl)) ?_
        refine al1 17 rfl ((stv ty31 SConfFaults.l_l (.t rfl) (.t rfl) ?_))
        refine hdn (ovr (bN (pN (region (cons (opv (Ev.add_i (.t rfl) (.c (v := I 1) rfl) (fun _ => by omega)) ?_))))))
        refine cons (opv (Ev.move (.t rfl)) (nil (pN (next (X := Int × OV) (i + 1, _) ?_ ?_ (by repeat first | exact Sub.nil | refine Sub.cons rfl ?_) (by rw [hst]; (try rw [← List.append_assoc]); repeat first | exact sR | exact sN | apply sC | apply sS | apply sA)))))
        · try dsimp only
          omega
        · try dsimp only
          omega
      · refine (opv (Ev.ldv ty3 (.t rfl) SConfFaults.l_at_) ?_)
        refine hdn (tk 11 rfl (Ev.add_i (.t rfl) (.t rfl) (fun _ => by simp; omega)) ?_)
        refine tk 12 rfl (Ev.buildS (fs := _) (places := [(0, 1), (1, 1)]) z37 rfl Tryz.underlying37 (by kernel_rfl) (.cons (.t rfl) (.cons (.t rfl) .nil)) (Fills.cons SFault.l_code rfl (Fills.cons SFault.l_at_ rfl Fills.nil))) ?_
        refine all [4, 13] (by kernel_rfl) (by decide) (.cons rfl ?_ (.cons rfl ?_ .nil))
        · refine (opv (Ev.ldv ty31 (.t rfl) SConfFaults.l_l) ?_)
          refine hdn (al1 13 rfl ((buildSlice (E := eFault) Tryz.underlying31 ty37 z37 (.cons (.t rfl) .nil) rfl rfl (fun v4 => ?_))))
          refine hdn (al1 14 rfl ((append (E := eFault) Tryz.underlying31 ty37 rfl zb37 zs37 (.t rfl) (.t rfl) (fun _ => by repeat first | exact Upd.head | apply Upd.tail | apply Upd.right) (by first | exact isSl_own (by repeat first | exact mH | apply mT | apply mA) | exact fun w I => IsSl.keep0 (by assumption) I.keeps) (⟨by (show _ ≤ 9223372036854775807); have := faultsUp_len (fun j0 : Nat => g (xs.getD j0 eMeterConf.zero) j0) d i.toNat; simp only [List.length_append, List.length_cons, List.length_nil]; omega, by have := faultsUp_len (fun j0 : Nat => g (xs.getD j0 eMeterConf.zero) j0) d i.toNat; simp only [List.length_append, List.length_cons, List.length_nil]; omega⟩) (fun v5 => ?_))))
          refine hdn (tk 15 rfl (Ev.nilCheck (.t rfl)) ?_)
          refine tk 16 rfl (Ev.fieldAddr (o := 0) (.t rfl) (by kernel_rfl)) ?_
          refine al1 17 rfl ((stv ty31 SConfFaults.l_l (.t rfl) (.t rfl) ?_))
          refine hdn (ovr (bN (pN (region (cons (opv (Ev.add_i (.t rfl) (.c (v := I 1) rfl) (fun _ => by omega)) ?_))))))
          refine cons (opv (Ev.move (.t rfl)) (nil (pN (next (X := Int × OV) (i + 1, _) ?_ ?_ (by repeat first | exact Sub.nil | refine Sub.cons rfl ?_) (by rw [hst]; (try rw [← List.append_assoc]); repeat first | exact sR | exact sN | apply sC | apply sS | apply sA)))))
          · try dsimp only
            omega
          · try dsimp only
            omega
        · refine (buildSlice (E := eFault) Tryz.underlying31 ty37 z37 (.cons (.t rfl) .nil) rfl rfl (fun v6 => ?_))
          refine hdn (al1 4 rfl ((opv (Ev.ldv ty31 (.t rfl) SConfFaults.l_l) ?_)))
          refine hdn (al1 14 rfl ((append (E := eFault) Tryz.underlying31 ty37 rfl zb37 zs37 (.t rfl) (.t rfl) (fun _ => by repeat first | exact Upd.head | apply Upd.tail | apply Upd.right) (by first | exact isSl_own (by repeat first | exact mH | apply mT | apply mA) | exact fun w I => IsSl.keep0 (by assumption) I.keeps) (⟨by (show _ ≤ 9223372036854775807); have := faultsUp_len (fun j0 : Nat => g (xs.getD j0 eMeterConf.zero) j0) d i.toNat; simp only [List.length_append, List.length_cons, List.length_nil]; omega, by have := faultsUp_len (fun j0 : Nat => g (xs.getD j0 eMeterConf.zero) j0) d i.toNat; simp only [List.length_append, List.length_cons, List.length_nil]; omega⟩) (fun v7 => ?_))))
          refine hdn (tk 15 rfl (Ev.nilCheck (.t rfl)) ?_)
          refine tk 16 rfl (Ev.fieldAddr (o := 0) (.t rfl) (by kernel_rfl)) ?_
          refine al1 17 rfl ((stv ty31 SConfFaults.l_l (.t rfl) (.t rfl) ?_))
          refine hdn (ovr (bN (pN (region (cons (opv (Ev.add_i (.t rfl) (.c (v := I 1) rfl) (fun _ => by omega)) ?_))))))
          refine cons (opv (Ev.move (.t rfl)) (nil (pN (next (X := Int × OV) (i + 1, _) ?_ ?_ (by repeat first | exact Sub.nil | refine Sub.cons rfl ?_) (by rw [hst]; (try rw [← List.append_assoc]); repeat first | exact sR | exact sN | apply sC | apply sS | apply sA)))))
          · try dsimp only
            omega
          · try dsimp only
            omega
    · try simp only [nb] at h1
      have ei : ((i.toNat : Nat) : Int) = i := by omega
      have hst := faultsUp_ok (e := (fun j0 : Nat => g (xs.getD j0 eMeterConf.zero) j0)) (d := d) hi.1 (by (try dsimp only); rw [ei]; exact h1)
      refine skip (bN (pN (region (cons (opv (Ev.add_i (.t rfl) (.c (v := I 1) rfl) (fun _ => by omega)) ?_)))))
      refine cons (opv (Ev.move (.t rfl)) (nil (pN (next (X := Int × OV) (i + 1, _) ?_ ?_ (by repeat first | exact Sub.nil | refine Sub.cons rfl ?_) (by rw [hst]; (try rw [← List.append_assoc]); repeat first | exact sR | exact sN | apply sC | apply sS | apply sA)))))
      · try dsimp only
        omega
      · try dsimp only
        omega
  · try simp only [nb] at h0
    refine exit (pX (pX (bX (pN (cut (X := OV) (fun x : OV => True) (fun x : OV => [(0, true, .pointer (some ⟨b, 0, none⟩)), (1, true, u)]) (fun x : OV => [Var b eConfFaults ⟨x, d⟩ 88, OwnS x.v eFault (fs ++ listG (fun j0 : Nat => g (xs.getD j0 eMeterConf.zero) j0) d xs.length most) 37]) ?_ (fun x hx => ?_))))))
    · refine seq (region ?_)
      have him : i.toNat = m := by omega
      rw [him]
      refine cons (opv (Ev.move (.t rfl)) (cons (opv (Ev.len Tryz.underlying25 (.t rfl) (fun w I => hxs w I.keeps)) ?_)))
      refine cons (opv (Ev.move (.t rfl)) (cons (opv (Ev.gtr_i (.t rfl) (.t rfl)) ?_)))
      refine nil (pN ?_)
      first | refine condD rfl (fun h2 => ?_) (fun h2 => ?_) | refine cond rfl (fun h2 => ?_) (fun h2 => ?_)
      · try simp only [nb] at h2
        refine draw [] (by kernel_rfl) ?_
        refine tk 0 rfl (Ev.move (.t rfl)) ?_
        refine tk 1 rfl (Ev.move (.t rfl)) ?_
        refine tk 2 rfl (Ev.nilCheck (.t rfl)) ?_
        refine tk 3 rfl (Ev.fieldAddr (o := 0) (.t rfl) (by kernel_rfl)) ?_
        refine tk 5 rfl (Ev.move (.t rfl)) ?_
        refine tk 6 rfl (Ev.nilCheck (.t rfl)) ?_
        refine tk 7 rfl (Ev.fieldAddr (o := 1) (.t rfl) (by kernel_rfl)) ?_
        refine tk 9 rfl (Ev.move (.t rfl)) ?_
        refine all [4, 8] (by kernel_rfl) (by decide) (.cons rfl ?_ (.cons rfl ?_ .nil))
        · refine (opv (Ev.ldv ty31 (.t rfl) SConfFaults.l_l) ?_)
          refine hdn (al1 8 rfl ((opv (Ev.ldv ty3 (.t rfl) SConfFaults.l_at_) ?_)))
          refine hdn (tk 10 rfl (Ev.add_i (.t rfl) (.t rfl) (fun _ => by simp; omega)) ?_)
          refine tk 11 rfl (Ev.buildS (fs := _) (places := [(0, 1), (1, 1)]) z37 rfl Tryz.underlying37 (by kernel_rfl) (.cons (.c (v := I 4) rfl) (.cons (.t rfl) .nil)) (Fills.cons SFault.l_code rfl (Fills.cons SFault.l_at_ rfl Fills.nil))) ?_
          refine al1 12 rfl ((buildSlice (E := eFault) Tryz.underlying31 ty37 z37 (.cons (.t rfl) .nil) rfl rfl (fun v8 => ?_)))
          refine hdn (al1 13 rfl ((append (E := eFault) Tryz.underlying31 ty37 rfl zb37 zs37 (.t rfl) (.t rfl) (fun _ => by repeat first | exact Upd.head | apply Upd.tail | apply Upd.right) (by first | exact isSl_own (by repeat first | exact mH | apply mT | apply mA) | exact fun w I => IsSl.keep0 (by assumption) I.keeps) (⟨by (show _ ≤ 9223372036854775807); have := faultsUp_len (fun j0 : Nat => g (xs.getD j0 eMeterConf.zero) j0) d m; simp only [List.length_append, List.length_cons, List.length_nil]; omega, by have := faultsUp_len (fun j0 : Nat => g (xs.getD j0 eMeterConf.zero) j0) d m; simp only [List.length_append, List.length_cons, List.length_nil]; omega⟩) (fun v9 => ?_))))
          refine hdn (tk 14 rfl (Ev.nilCheck (.t rfl)) ?_)
          refine tk 15 rfl (Ev.fieldAddr (o := 0) (.t rfl) (by kernel_rfl)) ?_
          refine al1 16 rfl ((stv ty31 SConfFaults.l_l (.t rfl) (.t rfl) ?_))
          refine hdn (ovr (pN (meet (X := OV) (_) trivial (by repeat first | exact Sub.nil | refine Sub.cons rfl ?_) (by unfold listG; rw [← hm2]; (first | rw [if_pos (by omega), ← List.append_assoc] | rw [if_neg (by omega), List.append_nil]); repeat first | exact sR | exact sN | apply sC | apply sS | apply sA))))
        · refine (opv (Ev.ldv ty3 (.t rfl) SConfFaults.l_at_) ?_)
          refine hdn (tk 10 rfl (Ev.add_i (.t rfl) (.t rfl) (fun _ => by simp; omega)) ?_)
          refine tk 11 rfl (Ev.buildS (fs := _) (places := [(0, 1), (1, 1)]) z37 rfl Tryz.underlying37 (by kernel_rfl) (.cons (.c (v := I 4) rfl) (.cons (.t rfl) .nil)) (Fills.cons SFault.l_code rfl (Fills.cons SFault.l_at_ rfl Fills.nil))) ?_
          refine all [4, 12] (by kernel_rfl) (by decide) (.cons rfl ?_ (.cons rfl ?_ .nil))
          · refine (opv (Ev.ldv ty31 (.t rfl) SConfFaults.l_l) ?_)
            refine hdn (al1 12 rfl ((buildSlice (E := eFault) Tryz.underlying31 ty37 z37 (.cons (.t rfl) .nil) rfl rfl (fun v10 => ?_))))
            refine hdn (al1 13 rfl ((append (E := eFault) Tryz.underlying31 ty37 rfl zb37 zs37 (.t rfl) (.t rfl) (fun _ => by repeat first | exact Upd.head | apply Upd.tail | apply Upd.right) (by first | exact isSl_own (by repeat first | exact mH | apply mT | apply mA) | exact fun w I => IsSl.keep0 (by assumption) I.keeps) (⟨by (show _ ≤ 9223372036854775807); have := faultsUp_len (fun j0 : Nat => g (xs.getD j0 eMeterConf.zero) j0) d m; simp only [List.length_append, List.length_cons, List.length_nil]; omega, by have := faultsUp_len (fun j0 : Nat => g (xs.getD j0 eMeterConf.zero) j0) d m; simp only [List.length_append, List.length_cons, List.length_nil]; omega⟩) (fun v11 => ?_))))
            refine hdn (tk 14 rfl (Ev.nilCheck (.t rfl)) ?_)
            refine tk 15 rfl (Ev.fieldAddr (o := 0) (.t rfl) (by kernel_rfl)) ?_
            refine al1 16 rfl ((stv ty31 SConfFaults.l_l (.t rfl) (.t rfl) ?_))
            refine hdn (ovr (pN (meet (X := OV) (_) trivial (by repeat first | exact Sub.nil | refine Sub.cons rfl ?_) (by unfold listG; rw [← hm2]; (first | rw [if_pos (by omega), ← List.append_assoc] | rw [if_neg (by omega), List.append_nil]); repeat first | exact sR | exact sN | apply sC | apply sS | apply sA))))
          · refine (buildSlice (E := eFault) Tryz.underlying31 ty37 z37 (.cons (.t rfl) .nil) rfl rfl (fun v12 => ?_))
            refine hdn (al1 4 rfl ((opv (Ev.ldv ty31 (.t rfl) SConfFaults.l_l) ?_)))
            refine hdn (al1 13 rfl ((append (E := eFault) Tryz.underlying31 ty37 rfl zb37 zs37 (.t rfl) (.t rfl) (fun _ => by repeat first | exact Upd.head | apply Upd.tail | apply Upd.right) (by first | exact isSl_own (by repeat first | exact mH | apply mT | apply mA) | exact fun w I => IsSl.keep0 (by assumption) I.keeps) (⟨by (show _ ≤ 9223372036854775807); have := faultsUp_len (fun j0 : Nat => g (xs.getD j0 eMeterConf.zero) j0) d m; simp only [List.length_append, List.length_cons, List.length_nil]; omega, by have := faultsUp_len (fun j0 : Nat => g (xs.getD j0 eMeterConf.zero) j0) d m; simp only [List.length_append, List.length_cons, List.length_nil]; omega⟩) (fun v13 => ?_))))
            refine hdn (tk 14 rfl (Ev.nilCheck (.t rfl)) ?_)
            refine tk 15 rfl (Ev.fieldAddr (o := 0) (.t rfl) (by kernel_rfl)) ?_
            refine al1 16 rfl ((stv ty31 SConfFaults.l_l (.t rfl) (.t rfl) ?_))
            refine hdn (ovr (pN (meet (X := OV) (_) trivial (by repeat first | exact Sub.nil | refine Sub.cons rfl ?_) (by unfold listG; rw [← hm2]; (first | rw [if_pos (by omega), ← List.append_assoc] | rw [if_neg (by omega), List.append_nil]); repeat first | exact sR | exact sN | apply sC | apply sS | apply sA))))
      · try simp only [nb] at h2
        refine skip (pN (meet (X := OV) (_) trivial (by repeat first | exact Sub.nil | refine Sub.cons rfl ?_) (by unfold listG; rw [← hm2]; (first | rw [if_pos (by omega), ← List.append_assoc] | rw [if_neg (by omega), List.append_nil]); repeat first | exact sR | exact sN | apply sC | apply sS | apply sA)))
    obtain ⟨q2, rfl⟩ : ∃ y, y = x := ⟨x, rfl⟩
    show Sat _ _ [(0, true, .pointer (some ⟨b, 0, none⟩)), (1, true, u)] [Var b eConfFaults ⟨q2, d⟩ 88, OwnS q2.v eFault (fs ++ listG (fun j0 : Nat => g (xs.getD j0 eMeterConf.zero) j0) d xs.length most) 37]
    refine region (cons (opv (Ev.move (.t rfl)) (cons (opv (Ev.nilCheck (.t rfl)) ?_))))
    refine cons (opv (Ev.fieldAddr (o := 1) (.t rfl) (by kernel_rfl)) ?_)
    refine cons (opv (Ev.ldv ty3 (.t rfl) SConfFaults.l_at_) ?_)
    refine cons (opv (Ev.move (.t rfl)) (cons (opv (Ev.len Tryz.underlying25 (.t rfl) (fun w I => hxs w I.keeps)) ?_)))
    refine cons (opv (Ev.add_i (.t rfl) (.t rfl) (fun _ => by simp; omega)) ?_)
    refine cons (opv (Ev.nilCheck (.t rfl)) ?_)
    refine cons (opv (Ev.fieldAddr (o := 1) (.t rfl) (by kernel_rfl)) ?_)
    refine cons (stv ty3 SConfFaults.l_at_ (.t rfl) (.t rfl) ?_)
    refine nil (done' rfl .nil (fun w I => ?_))
    exact retR (r' := fun o2 => FR b o2 (fs ++ listG (fun j0 : Nat => g (xs.getD j0 eMeterConf.zero) j0) d xs.length most) (d + xs.length)) _ trivial rfl (List.mem_singleton_self _) w (WInv.sepIn (I.sub (by repeat first | exact sR | exact sN | apply sC | apply sS | apply sA)))

theorem list_59 (f : Nat) (fst cap : List Value) (g : SMirrorConf → Int → Int) (D : SMirrorConf → Int → Prop) (b : Nat) (o : OV) (fs : List SFault) (d : Int) (u : Value) (xs : List SMirrorConf) (most : Nat) (w : World) (hen : Gx.Enters Tryz.prog f) (h : At (FR b o fs d) w) (hxs : ∀ w1, Keeps (FR b o fs d).foot w w1 → IsSl eMirrorConf w1 u xs) (hk : FnB2 Tryz.prog f fst cap (FR b o fs d).foot w eMirrorConf iE iE D g) (hD : ∀ i : Nat, i < xs.length → D (xs.getD i eMirrorConf.zero) i) (hd : 0 ≤ d ∧ d + xs.length ≤ 4611686018427387904) (hf : fs.length + most ≤ 100000) : Calls Tryz.prog 45 #[.pointer (some ⟨b, 0, none⟩), u, I most, (bnd f fst cap).v] w (RetR w (FR b o fs d) (fun _ : OV => True) (fun _ => .tuple #[]) (fun o2 => FR b o2 (fs ++ listG (fun j0 : Nat => g (xs.getD j0 eMirrorConf.zero) j0) d xs.length most) (d + xs.length))) := by
  obtain ⟨m, hm⟩ : ∃ m : Nat, (min (xs.length : Int) (most : Int)) = (m : Int) := ⟨min xs.length most, by omega⟩
  have hm2 : m = min xs.length most := by omega
  have hle := (hxs w (Keeps.refl _ _)).le
  have htl : (xs.take m).length = m := by simp; omega
  refine enter (FR b o fs d).foot 76 [FR b o fs d] Tryz.func45 rfl rfl (Nat.le_of_ble_eq_true rfl) (start_at h) ?_
  refine sepOut Rem.head ?_
  refine seq (seq (region (cons (opv (Ev.move (.t rfl)) (cons (opv (Ev.move (.t rfl)) (cons (opv (Ev.len Tryz.underlying26 (.t rfl) (fun w I => hxs w I.keeps)) ?_))))))))
  refine cons (opv (Ev.move (.t rfl)) (cons (opv (Ev.to (v' := I ((m : Nat) : Int)) (Ev.min_i (.t rfl) (.t rfl)) (by rw [hm])) ?_)))
  refine cons (opv (Ev.sliceH Tryz.underlying26 ty59 (.t rfl) (.t rfl) (fun w I => hxs w I.keeps) (fun _ => by omega)) ?_)
  refine cons (opv (Ev.len Tryz.underlying26 (.t rfl) (fun w I => by have := (hxs w I.keeps).sub (l := 0) (k := m) (by omega) (by omega); simpa using this)) ?_)
  refine cons (opv (Ev.move (.c (v := I 0) rfl)) ?_)
  refine nil (pN (block (loop (X := Int × OV) (fun x : Int × OV => (0 ≤ x.1 ∧ x.1 ≤ m)) (fun x : Int × OV => [(0, true, .pointer (some ⟨b, 0, none⟩)), (1, true, u), (2, true, I most), (3, true, (bnd f fst cap).v), (16, true, subS eMirrorConf.size u 0 m), (17, true, I (xs.take m).length), (18, true, I x.1)]) (fun x : Int × OV => [Var b eConfFaults ⟨x.2, d⟩ 88, OwnS x.2.v eFault (fs ++ faultsUp (fun j0 : Nat => g (xs.getD j0 eMirrorConf.zero) j0) d x.1.toNat) 37]) (fun x : Int × OV => ((m : Int) - x.1).toNat) (0, o) ?_ (by repeat first | exact Sub.nil | refine Sub.cons rfl ?_) (by simp only [show (0 : Int).toNat = 0 from rfl, faultsUp, List.append_nil]; repeat first | exact sR | exact sN | apply sC | apply sS | apply sA) (fun x hx => ?_))))
  · omega
  obtain ⟨i, q⟩ := x
  have hi : 0 ≤ i ∧ i ≤ m := hx
  clear hx
  show Sat _ _ [(0, true, .pointer (some ⟨b, 0, none⟩)), (1, true, u), (2, true, I most), (3, true, (bnd f fst cap).v), (16, true, subS eMirrorConf.size u 0 m), (17, true, I (xs.take m).length), (18, true, I i)] [Var b eConfFaults ⟨q, d⟩ 88, OwnS q.v eFault (fs ++ faultsUp (fun j0 : Nat => g (xs.getD j0 eMirrorConf.zero) j0) d i.toNat) 37]
  refine seq (region (cons (opv (Ev.lss_i (.t rfl) (.t rfl)) ?_)))
  refine nil (pN (seq ?_))
  first | refine condD rfl (fun h0 => ?_) (fun h0 => ?_) | refine cond rfl (fun h0 => ?_) (fun h0 => ?_)
  · try simp only [nb] at h0
    refine skip (pN (seq (block (seq (region (cons (opv (Ev.move (.t rfl)) (cons (opv (Ev.indexAddr Tryz.underlying26 ty59 (.t rfl) (.t rfl) (fun w I => by have := (hxs w I.keeps).sub (l := 0) (k := m) (by omega) (by omega); simpa using this) (fun _ => by omega)) ?_)))))))))
    refine cons (opv (Ev.to (v' := eMirrorConf.val (xs.getD i.toNat eMirrorConf.zero)) (Ev.loadS0 ty59 (.t rfl) (fun w I => by have := (hxs w I.keeps).sub (l := 0) (k := m) (by omega) (by omega); simpa using this) (fun _ => by omega)) (congrArg eMirrorConf.val (getD_take'' xs m i.toNat _ (by omega)))) ?_)
    refine cons (alloc z59 (fun b1 => ?_))
    refine cons (opv (Ev.assign (.t rfl)) (cons (stv ty59 (Lens.id _) (.t rfl) (.t rfl) ?_)))
    refine nil (pN (seq (region (cons (opv (Ev.move (.t rfl)) (cons (opv (Ev.ldv ty59 (.t rfl) (Lens.id _)) ?_)))))))
    refine cons (opv (Ev.move (.t rfl)) (cons (callbv (.t rfl) hen (.cons (.t rfl) (.cons (.t rfl) .nil)) (fun w I => hk (xs.getD i.toNat eMirrorConf.zero) i w (by have := hD i.toNat (by omega); rwa [show ((i.toNat : Nat) : Int) = i by omega] at this) I.keeps) ?_)))
    refine cons (opv (Ev.assign (.t rfl)) (nil (pN (seq (region (cons (opv (Ev.move (.t rfl)) (cons (opv (Ev.neq_i (.t rfl) (.c (v := I 0) rfl)) ?_)))))))))
    refine nil (pN ?_)
    first | refine condD rfl (fun h1 => ?_) (fun h1 => ?_) | refine cond rfl (fun h1 => ?_) (fun h1 => ?_)
    · try simp only [nb] at h1
      have ei : ((i.toNat : Nat) : Int) = i := by omega
      have hst := faultsUp_bad (e := (fun j0 : Nat => g (xs.getD j0 eMirrorConf.zero) j0)) (d := d) hi.1 (by (try dsimp only); rw [ei]; exact h1)
      (try dsimp only at hst)
      rw [ei] at hst
      refine draw [] (by kernel_rfl) ?_
      refine tk 0 rfl (Ev.move (.t rfl)) ?_
      refine tk 1 rfl (Ev.move (.t rfl)) ?_
      refine tk 2 rfl (Ev.nilCheck (.t rfl)) ?_
      refine tk 3 rfl (Ev.fieldAddr (o := 0) (.t rfl) (by kernel_rfl)) ?_
      refine tk 5 rfl (Ev.move (.t rfl)) ?_
      refine tk 6 rfl (Ev.move (.t rfl)) ?_
      refine tk 7 rfl (Ev.nilCheck (.t rfl)) ?_
      refine tk 8 rfl (Ev.fieldAddr (o := 1) (.t rfl) (by kernel_rfl)) ?_
      refine tk 10 rfl (Ev.move (.t rfl)) ?_
      refine all [4, 9] (by kernel_rfl) (by decide) (.cons rfl ?_ (.cons rfl ?_ .nil))
      · refine (opv (Ev.ldv ty31 (.t rfl) SConfFaults.l_l) ?_)
        refine hdn (al1 9 rfl ((opv (Ev.ldv ty3 (.t rfl) SConfFaults.l_at_) ?_)))
        refine hdn (tk 11 rfl (Ev.add_i (.t rfl) (.t rfl) (fun _ => by simp; omega)) ?_)
        refine tk 12 rfl (Ev.buildS (fs := _) (places := [(0, 1), (1, 1)]) z37 rfl Tryz.underlying37 (by kernel_rfl) (.cons (.t rfl) (.cons (.t rfl) .nil)) (Fills.cons SFault.l_code rfl (Fills.cons SFault.l_at_ rfl Fills.nil))) ?_
        refine al1 13 rfl ((buildSlice (E := eFault) Tryz.underlying31 ty37 z37 (.cons (.t rfl) .nil) rfl rfl (fun v2 => ?_)))
        refine hdn (al1 14 rfl ((append (E := eFault) Tryz.underlying31 ty37 rfl zb37 zs37 (.t rfl) (.t rfl) (fun _ => by repeat first | exact Upd.head | apply Upd.tail | apply Upd.right) (by first | exact isSl_own (by repeat first | exact mH | apply mT | apply mA) | exact fun w I => IsSl.keep0 (by assumption) I.keeps) (⟨by (show _ ≤ 9223372036854775807); have := faultsUp_len (fun j0 : Nat => g (xs.getD j0 eMirrorConf.zero) j0) d i.toNat; simp only [List.length_append, List.length_cons, List.length_nil]; omega, by have := faultsUp_len (fun j0 : Nat => g (xs.getD j0 eMirrorConf.zero) j0) d i.toNat; simp only [List.length_append, List.length_cons, List.length_nil]; omega⟩) (fun v3 => ?_))))
        refine hdn (tk 15 rfl (Ev.nilCheck (.t rfl)) ?_)
        refine tk 16 rfl (Ev.fieldAddr (o := 0) (.t rfl) (by kernel_rfl)) ?_
        refine al1 17 rfl ((stv ty31 SConfFaults.l_l (.t rfl) (.t rfl) ?_))
        refine hdn (ovr (bN (pN (region (cons (opv (Ev.add_i (.t rfl) (.c (v := I 1) rfl) (fun _ => by omega)) ?_))))))
        refine cons (opv (Ev.move (.t rfl)) (nil (pN (next (X := Int × OV) (i + 1, _) ?_ ?_ (by repeat first | exact Sub.nil | refine Sub.cons rfl ?_) (by rw [hst]; (try rw [← List.append_assoc]); repeat first | exact sR | exact sN | apply sC | apply sS | apply sA)))))
        · try dsimp only
          omega
        · try dsimp only
          omega
      · refine (opv (Ev.ldv ty3 (.t rfl) SConfFaults.l_at_) ?_)
        refine hdn (tk 11 rfl (Ev.add_i (.t rfl) (.t rfl) (fun _ => by simp; omega)) ?_)
        refine tk 12 rfl (Ev.buildS (fs := _) (places := [(0, 1), (1, 1)]) z37 rfl Tryz.underlying37 (by kernel_rfl) (.cons (.t rfl) (.cons (.t rfl) .nil)) (Fills.cons SFault.l_code rfl (Fills.cons SFault.l_at_ rfl Fills.nil))) ?_
        refine all [4, 13] (by kernel_rfl) (by decide) (.cons rfl ?_ (.cons rfl ?_ .nil))
        · refine (opv (Ev.ldv ty31 (.t rfl) SConfFaults.l_l) ?_)
          refine hdn (al1 13 rfl ((buildSlice (E := eFault) Tryz.underlying31 ty37 z37 (.cons (.t rfl) .nil) rfl rfl (fun v4 => ?_))))
          refine hdn (al1 14 rfl ((append (E := eFault) Tryz.underlying31 ty37 rfl zb37 zs37 (.t rfl) (.t rfl) (fun _ => by repeat first | exact Upd.head | apply Upd.tail | apply Upd.right) (by first | exact isSl_own (by repeat first | exact mH | apply mT | apply mA) | exact fun w I => IsSl.keep0 (by assumption) I.keeps) (⟨by (show _ ≤ 9223372036854775807); have := faultsUp_len (fun j0 : Nat => g (xs.getD j0 eMirrorConf.zero) j0) d i.toNat; simp only [List.length_append, List.length_cons, List.length_nil]; omega, by have := faultsUp_len (fun j0 : Nat => g (xs.getD j0 eMirrorConf.zero) j0) d i.toNat; simp only [List.length_append, List.length_cons, List.length_nil]; omega⟩) (fun v5 => ?_))))
          refine hdn (tk 15 rfl (Ev.nilCheck (.t rfl)) ?_)
          refine tk 16 rfl (Ev.fieldAddr (o := 0) (.t rfl) (by kernel_rfl)) ?_
          refine al1 17 rfl ((stv ty31 SConfFaults.l_l (.t rfl) (.t rfl) ?_))
          refine hdn (ovr (bN (pN (region (cons (opv (Ev.add_i (.t rfl) (.c (v := I 1) rfl) (fun _ => by omega)) ?_))))))
          refine cons (opv (Ev.move (.t rfl)) (nil (pN (next (X := Int × OV) (i + 1, _) ?_ ?_ (by repeat first | exact Sub.nil | refine Sub.cons rfl ?_) (by rw [hst]; (try rw [← List.append_assoc]); repeat first | exact sR | exact sN | apply sC | apply sS | apply sA)))))
          · try dsimp only
            omega
          · try dsimp only
            omega
        · refine (buildSlice (E := eFault) Tryz.underlying31 ty37 z37 (.cons (.t rfl) .nil) rfl rfl (fun v6 => ?_))
          refine hdn (al1 4 rfl ((opv (Ev.ldv ty31 (.t rfl) SConfFaults.l_l) ?_)))
          refine hdn (al1 14 rfl ((append (E := eFault) Tryz.underlying31 ty37 rfl zb37 zs37 (.t rfl) (.t rfl) (fun _ => by repeat first | exact Upd.head | apply Upd.tail | apply Upd.right) (by first | exact isSl_own (by repeat first | exact mH | apply mT | apply mA) | exact fun w I => IsSl.keep0 (by assumption) I.keeps) (⟨by (show _ ≤ 9223372036854775807); have := faultsUp_len (fun j0 : Nat => g (xs.getD j0 eMirrorConf.zero) j0) d i.toNat; simp only [List.length_append, List.length_cons, List.length_nil]; omega, by have := faultsUp_len (fun j0 : Nat => g (xs.getD j0 eMirrorConf.zero) j0) d i.toNat; simp only [List.length_append, List.length_cons, List.length_nil]; omega⟩) (fun v7 => ?_))))
          refine hdn (tk 15 rfl (Ev.nilCheck (.t rfl)) ?_)
          refine tk 16 rfl (Ev.fieldAddr (o := 0) (.t rfl) (by kernel_rfl)) ?_
          refine al1 17 rfl ((stv ty31 SConfFaults.l_l (.t rfl) (.t rfl) ?_))
          refine hdn (ovr (bN (pN (region (cons (opv (Ev.add_i (.t rfl) (.c (v := I 1) rfl) (fun _ => by omega)) ?_))))))
          refine cons (opv (Ev.move (.t rfl)) (nil (pN (next (X := Int × OV) (i + 1, _) ?_ ?_ (by repeat first | exact Sub.nil | refine Sub.cons rfl ?_) (by rw [hst]; (try rw [← List.append_assoc]); repeat first | exact sR | exact sN | apply sC | apply sS | apply sA)))))
          · try dsimp only
            omega
          · try dsimp only
            omega
    · try simp only [nb] at h1
      have ei : ((i.toNat : Nat) : Int) = i := by omega
      have hst := faultsUp_ok (e := (fun j0 : Nat => g (xs.getD j0 eMirrorConf.zero) j0)) (d := d) hi.1 (by (try dsimp only); rw [ei]; exact h1)
      refine skip (bN (pN (region (cons (opv (Ev.add_i (.t rfl) (.c (v := I 1) rfl) (fun _ => by omega)) ?_)))))
      refine cons (opv (Ev.move (.t rfl)) (nil (pN (next (X := Int × OV) (i + 1, _) ?_ ?_ (by repeat first | exact Sub.nil | refine Sub.cons rfl ?_) (by rw [hst]; (try rw [← List.append_assoc]); repeat first | exact sR | exact sN | apply sC | apply sS | apply sA)))))
      · try dsimp only
        omega
      · try dsimp only
        omega
  · try simp only [nb] at h0
    refine exit (pX (pX (bX (pN (cut (X := OV) (fun x : OV => True) (fun x : OV => [(0, true, .pointer (some ⟨b, 0, none⟩)), (1, true, u)]) (fun x : OV => [Var b eConfFaults ⟨x, d⟩ 88, OwnS x.v eFault (fs ++ listG (fun j0 : Nat => g (xs.getD j0 eMirrorConf.zero) j0) d xs.length most) 37]) ?_ (fun x hx => ?_))))))
    · refine seq (region ?_)
      have him : i.toNat = m := by omega
      rw [him]
      refine cons (opv (Ev.move (.t rfl)) (cons (opv (Ev.len Tryz.underlying26 (.t rfl) (fun w I => hxs w I.keeps)) ?_)))
      refine cons (opv (Ev.move (.t rfl)) (cons (opv (Ev.gtr_i (.t rfl) (.t rfl)) ?_)))
      refine nil (pN ?_)
      first | refine condD rfl (fun h2 => ?_) (fun h2 => ?_) | refine cond rfl (fun h2 => ?_) (fun h2 => ?_)
      · try simp only [nb] at h2
        refine draw [] (by kernel_rfl) ?_
        refine tk 0 rfl (Ev.move (.t rfl)) ?_
        refine tk 1 rfl (Ev.move (.t rfl)) ?_
        refine tk 2 rfl (Ev.nilCheck (.t rfl)) ?_
        refine tk 3 rfl (Ev.fieldAddr (o := 0) (.t rfl) (by kernel_rfl)) ?_
        refine tk 5 rfl (Ev.move (.t rfl)) ?_
        refine tk 6 rfl (Ev.nilCheck (.t rfl)) ?_
        refine tk 7 rfl (Ev.fieldAddr (o := 1) (.t rfl) (by kernel_rfl)) ?_
        refine tk 9 rfl (Ev.move (.t rfl)) ?_
        refine all [4, 8] (by kernel_rfl) (by decide) (.cons rfl ?_ (.cons rfl ?_ .nil))
        · refine (opv (Ev.ldv ty31 (.t rfl) SConfFaults.l_l) ?_)
          refine hdn (al1 8 rfl ((opv (Ev.ldv ty3 (.t rfl) SConfFaults.l_at_) ?_)))
          refine hdn (tk 10 rfl (Ev.add_i (.t rfl) (.t rfl) (fun _ => by simp; omega)) ?_)
          refine tk 11 rfl (Ev.buildS (fs := _) (places := [(0, 1), (1, 1)]) z37 rfl Tryz.underlying37 (by kernel_rfl) (.cons (.c (v := I 4) rfl) (.cons (.t rfl) .nil)) (Fills.cons SFault.l_code rfl (Fills.cons SFault.l_at_ rfl Fills.nil))) ?_
          refine al1 12 rfl ((buildSlice (E := eFault) Tryz.underlying31 ty37 z37 (.cons (.t rfl) .nil) rfl rfl (fun v8 => ?_)))
          refine hdn (al1 13 rfl ((append (E := eFault) Tryz.underlying31 ty37 rfl zb37 zs37 (.t rfl) (.t rfl) (fun _ => by repeat first | exact Upd.head | apply Upd.tail | apply Upd.right) (by first | exact isSl_own (by repeat first | exact mH | apply mT | apply mA) | exact fun w I => IsSl.keep0 (by assumption) I.keeps) (⟨by (show _ ≤ 9223372036854775807); have := faultsUp_len (fun j0 : Nat => g (xs.getD j0 eMirrorConf.zero) j0) d m; simp only [List.length_append, List.length_cons, List.length_nil]; omega, by have := faultsUp_len (fun j0 : Nat => g (xs.getD j0 eMirrorConf.zero) j0) d m; simp only [List.length_append, List.length_cons, List.length_nil]; omega⟩) (fun v9 => ?_))))
          refine hdn (tk 14 rfl (Ev.nilCheck (.t rfl)) ?_)
          refine tk 15 rfl (Ev.fieldAddr (o := 0) (.t rfl) (by kernel_rfl)) ?_
          refine al1 16 rfl ((stv ty31 SConfFaults.l_l (.t rfl) (.t rfl) ?_))
          refine hdn (ovr (pN (meet (X := OV) (_) trivial (by repeat first | exact Sub.nil | refine Sub.cons rfl ?_) (by unfold listG; rw [← hm2]; (first | rw [if_pos (by omega), ← List.append_assoc] | rw [if_neg (by omega), List.append_nil]); repeat first | exact sR | exact sN | apply sC | apply sS | apply sA))))
        · refine (opv (Ev.ldv ty3 (.t rfl) SConfFaults.l_at_) ?_)
          refine hdn (tk 10 rfl (Ev.add_i (.t rfl) (.t rfl) (fun _ => by simp; omega)) ?_)
          refine tk 11 rfl (Ev.buildS (fs := _) (places := [(0, 1), (1, 1)]) z37 rfl Tryz.underlying37 (by kernel_rfl) (.cons (.c (v := I 4) rfl) (.cons (.t rfl) .nil)) (Fills.cons SFault.l_code rfl (Fills.cons SFault.l_at_ rfl Fills.nil))) ?_
          refine all [4, 12] (by kernel_rfl) (by decide) (.cons rfl ?_ (.cons rfl ?_ .nil))
          · refine (opv (Ev.ldv ty31 (.t rfl) SConfFaults.l_l) ?_)
            refine hdn (al1 12 rfl ((buildSlice (E := eFault) Tryz.underlying31 ty37 z37 (.cons (.t rfl) .nil) rfl rfl (fun v10 => ?_))))
            refine hdn (al1 13 rfl ((append (E := eFault) Tryz.underlying31 ty37 rfl zb37 zs37 (.t rfl) (.t rfl) (fun _ => by repeat first | exact Upd.head | apply Upd.tail | apply Upd.right) (by first | exact isSl_own (by repeat first | exact mH | apply mT | apply mA) | exact fun w I => IsSl.keep0 (by assumption) I.keeps) (⟨by (show _ ≤ 9223372036854775807); have := faultsUp_len (fun j0 : Nat => g (xs.getD j0 eMirrorConf.zero) j0) d m; simp only [List.length_append, List.length_cons, List.length_nil]; omega, by have := faultsUp_len (fun j0 : Nat => g (xs.getD j0 eMirrorConf.zero) j0) d m; simp only [List.length_append, List.length_cons, List.length_nil]; omega⟩) (fun v11 => ?_))))
            refine hdn (tk 14 rfl (Ev.nilCheck (.t rfl)) ?_)
            refine tk 15 rfl (Ev.fieldAddr (o := 0) (.t rfl) (by kernel_rfl)) ?_
            refine al1 16 rfl ((stv ty31 SConfFaults.l_l (.t rfl) (.t rfl) ?_))
            refine hdn (ovr (pN (meet (X := OV) (_) trivial (by repeat first | exact Sub.nil | refine Sub.cons rfl ?_) (by unfold listG; rw [← hm2]; (first | rw [if_pos (by omega), ← List.append_assoc] | rw [if_neg (by omega), List.append_nil]); repeat first | exact sR | exact sN | apply sC | apply sS | apply sA))))
          · refine (buildSlice (E := eFault) Tryz.underlying31 ty37 z37 (.cons (.t rfl) .nil) rfl rfl (fun v12 => ?_))
            refine hdn (al1 4 rfl ((opv (Ev.ldv ty31 (.t rfl) SConfFaults.l_l) ?_)))
            refine hdn (al1 13 rfl ((append (E := eFault) Tryz.underlying31 ty37 rfl zb37 zs37 (.t rfl) (.t rfl) (fun _ => by repeat first | exact Upd.head | apply Upd.tail | apply Upd.right) (by first | exact isSl_own (by repeat first | exact mH | apply mT | apply mA) | exact fun w I => IsSl.keep0 (by assumption) I.keeps) (⟨by (show _ ≤ 9223372036854775807); have := faultsUp_len (fun j0 : Nat => g (xs.getD j0 eMirrorConf.zero) j0) d m; simp only [List.length_append, List.length_cons, List.length_nil]; omega, by have := faultsUp_len (fun j0 : Nat => g (xs.getD j0 eMirrorConf.zero) j0) d m; simp only [List.length_append, List.length_cons, List.length_nil]; omega⟩) (fun v13 => ?_))))
            refine hdn (tk 14 rfl (Ev.nilCheck (.t rfl)) ?_)
            refine tk 15 rfl (Ev.fieldAddr (o := 0) (.t rfl) (by kernel_rfl)) ?_
            refine al1 16 rfl ((stv ty31 SConfFaults.l_l (.t rfl) (.t rfl) ?_))
            refine hdn (ovr (pN (meet (X := OV) (_) trivial (by repeat first | exact Sub.nil | refine Sub.cons rfl ?_) (by unfold listG; rw [← hm2]; (first | rw [if_pos (by omega), ← List.append_assoc] | rw [if_neg (by omega), List.append_nil]); repeat first | exact sR | exact sN | apply sC | apply sS | apply sA))))
      · try simp only [nb] at h2
        refine skip (pN (meet (X := OV) (_) trivial (by repeat first | exact Sub.nil | refine Sub.cons rfl ?_) (by unfold listG; rw [← hm2]; (first | rw [if_pos (by omega), ← List.append_assoc] | rw [if_neg (by omega), List.append_nil]); repeat first | exact sR | exact sN | apply sC | apply sS | apply sA)))
    obtain ⟨q2, rfl⟩ : ∃ y, y = x := ⟨x, rfl⟩
    show Sat _ _ [(0, true, .pointer (some ⟨b, 0, none⟩)), (1, true, u)] [Var b eConfFaults ⟨q2, d⟩ 88, OwnS q2.v eFault (fs ++ listG (fun j0 : Nat => g (xs.getD j0 eMirrorConf.zero) j0) d xs.length most) 37]
    refine region (cons (opv (Ev.move (.t rfl)) (cons (opv (Ev.nilCheck (.t rfl)) ?_))))
    refine cons (opv (Ev.fieldAddr (o := 1) (.t rfl) (by kernel_rfl)) ?_)
    refine cons (opv (Ev.ldv ty3 (.t rfl) SConfFaults.l_at_) ?_)
    refine cons (opv (Ev.move (.t rfl)) (cons (opv (Ev.len Tryz.underlying26 (.t rfl) (fun w I => hxs w I.keeps)) ?_)))
    refine cons (opv (Ev.add_i (.t rfl) (.t rfl) (fun _ => by simp; omega)) ?_)
    refine cons (opv (Ev.nilCheck (.t rfl)) ?_)
    refine cons (opv (Ev.fieldAddr (o := 1) (.t rfl) (by kernel_rfl)) ?_)
    refine cons (stv ty3 SConfFaults.l_at_ (.t rfl) (.t rfl) ?_)
    refine nil (done' rfl .nil (fun w I => ?_))
    exact retR (r' := fun o2 => FR b o2 (fs ++ listG (fun j0 : Nat => g (xs.getD j0 eMirrorConf.zero) j0) d xs.length most) (d + xs.length)) _ trivial rfl (List.mem_singleton_self _) w (WInv.sepIn (I.sub (by repeat first | exact sR | exact sN | apply sC | apply sS | apply sA)))
end Go.Proofs.YtnoobdijbpmjkaaGreat
