/- Part. -/
import Derived.Test.YtnoobdijbpmjkaaGreatM2
set_option linter.unusedVariables false
set_option linter.unusedSimpArgs false
set_option linter.unusedSectionVars false
namespace Go.Proofs.YtnoobdijbpmjkaaGreat
open Go Go.Gx
structure SConfFaults where
  l : OV
  at_ : Int
def SConfFaults.to : (OV × Int) → SConfFaults := fun x => ⟨x.1, x.2⟩
def SConfFaults.of : SConfFaults → (OV × Int) := fun x => (x.l, x.at_)
def eConfFaults : Enc SConfFaults := isoE (prodE (ovE nilSl) iE) SConfFaults.to SConfFaults.of
def SConfFaults.l_l : Lens eConfFaults (ovE nilSl) 0 := lIso _ SConfFaults.to SConfFaults.of (fun _ => rfl) (lFst (ovE nilSl) iE)
@[simp] theorem SConfFaults.get_l (x : SConfFaults) : SConfFaults.l_l.get x = x.l := rfl
@[simp] theorem SConfFaults.set_l (x : SConfFaults) (y : OV) : SConfFaults.l_l.set x y = { x with l := y } := rfl
def SConfFaults.l_at_ : Lens eConfFaults iE 1 := lIso _ SConfFaults.to SConfFaults.of (fun _ => rfl) (Lens.comp (lSnd (ovE nilSl) iE) (Lens.id iE))
@[simp] theorem SConfFaults.get_at_ (x : SConfFaults) : SConfFaults.l_at_.get x = x.at_ := rfl
@[simp] theorem SConfFaults.set_at_ (x : SConfFaults) (y : Int) : SConfFaults.l_at_.set x y = { x with at_ := y } := rfl
structure SFault where
  code : Int
  at_ : Int
def SFault.to : (Int × Int) → SFault := fun x => ⟨x.1, x.2⟩
def SFault.of : SFault → (Int × Int) := fun x => (x.code, x.at_)
def eFault : Enc SFault := isoE (prodE iE iE) SFault.to SFault.of
def SFault.l_code : Lens eFault iE 0 := lIso _ SFault.to SFault.of (fun _ => rfl) (lFst iE iE)
@[simp] theorem SFault.get_code (x : SFault) : SFault.l_code.get x = x.code := rfl
@[simp] theorem SFault.set_code (x : SFault) (y : Int) : SFault.l_code.set x y = { x with code := y } := rfl
def SFault.l_at_ : Lens eFault iE 1 := lIso _ SFault.to SFault.of (fun _ => rfl) (Lens.comp (lSnd iE iE) (Lens.id iE))
@[simp] theorem SFault.get_at_ (x : SFault) : SFault.l_at_.get x = x.at_ := rfl
@[simp] theorem SFault.set_at_ (x : SFault) (y : Int) : SFault.l_at_.set x y = { x with at_ := y } := rfl
def faultsUp (e : Nat → Int) (d : Int) : Nat → List SFault
  | 0 => []
  | n + 1 => faultsUp e d n ++ (if e n = 0 then [] else [⟨e n, d + n⟩])
theorem faultsUp_len (e : Nat → Int) (d : Int) : ∀ n, (faultsUp e d n).length ≤ n
  | 0 => Nat.le_refl _
  | n + 1 => by
    have := faultsUp_len e d n
    unfold faultsUp
    rw [List.length_append]
    split <;> simp <;> omega
theorem faultsUp_ok {e : Nat → Int} {d i : Int} (h : 0 ≤ i) (he : e i.toNat = 0) : faultsUp e d (i + 1).toNat = faultsUp e d i.toNat := by
  rw [show (i + 1).toNat = i.toNat + 1 by omega, faultsUp, if_pos he, List.append_nil]
theorem faultsUp_bad {e : Nat → Int} {d i : Int} (h : 0 ≤ i) (he : ¬ e i.toNat = 0) : faultsUp e d (i + 1).toNat = faultsUp e d i.toNat ++ [⟨e i.toNat, d + i⟩] := by
  rw [show (i + 1).toNat = i.toNat + 1 by omega, faultsUp, if_neg he]
  have : ((i.toNat : Nat) : Int) = i := by omega
  rw [this]
def listG (e : Nat → Int) (d : Int) (n most : Nat) : List SFault := faultsUp e d (min n most) ++ (if most < n then [⟨4, d + most⟩] else [])
abbrev FR (b : Nat) (o : OV) (fs : List SFault) (d : Int) : Res := Sep (Var b eConfFaults ⟨o, d⟩ 88) (OwnS o.v eFault fs 37)
theorem getD_take'' {α : Type} (l : List α) (m i : Nat) (d : α) (h : i < m) : (l.take m).getD i d = l.getD i d := by simp [List.getD, List.getElem?_take, h]
theorem ty31 : TyOK Tryz.prog 31 (ovE nilSl) := TyOK.mk' zk zk
theorem z37 : (Tryz.prog.info? 37).bind (·.zero) = some (eFault.val eFault.zero) := by kernel_rfl
theorem ty37 : TyOK Tryz.prog 37 eFault := TyOK.mk' zk zk
theorem zb37 : (Tryz.prog.info? 37).map (fun i => (i.zero, i.bytes)) = some (some (eFault.val eFault.zero), 16) := by kernel_rfl
theorem zs37 : (eFault.val eFault.zero).cells.size = eFault.size := by rw [Enc.cells_val, List.size_toArray, Enc.len]
theorem list_3 (f : Nat) (fst cap : List Value) (g : Int → Int → Int) (D : Int → Int → Prop) (b : Nat) (o : OV) (fs : List SFault) (d : Int) (u : Value) (xs : List Int) (most : Nat) (w : World) (hen : Gx.Enters Tryz.prog f) (h : At (FR b o fs d) w) (hxs : ∀ w1, Keeps (FR b o fs d).foot w w1 → IsSl iE w1 u xs) (hk : FnB2 Tryz.prog f fst cap (FR b o fs d).foot w iE iE iE D g) (hD : ∀ i : Nat, i < xs.length → D (xs.getD i iE.zero) i) (hd : 0 ≤ d ∧ d + xs.length ≤ 4611686018427387904) (hf : fs.length + most ≤ 100000) : Calls Tryz.prog 37 #[.pointer (some ⟨b, 0, none⟩), u, I most, (bnd f fst cap).v] w (RetR w (FR b o fs d) (fun _ : OV => True) (fun _ => .tuple #[]) (fun o2 => FR b o2 (fs ++ listG (fun j0 : Nat => g (xs.getD j0 iE.zero) j0) d xs.length most) (d + xs.length))) := by
  obtain ⟨m, hm⟩ : ∃ m : Nat, (min (xs.length : Int) (most : Int)) = (m : Int) := ⟨min xs.length most, by omega⟩
  have hm2 : m = min xs.length most := by omega
  have hle := (hxs w (Keeps.refl _ _)).le
  have htl : (xs.take m).length = m := by simp; omega
  refine enter (FR b o fs d).foot 76 [FR b o fs d] Tryz.func37 rfl rfl (Nat.le_of_ble_eq_true rfl) (start_at h) ?_
  refine sepOut Rem.head ?_
  refine seq (sg (mv rfl (mv rfl (co (Ev.len Tryz.underlying22 (.t rfl) (fun w I => hxs w I.keeps)) ?_))))
  refine mv rfl (co (Ev.to (v' := I ((m : Nat) : Int)) (Ev.min_i (.t rfl) (.t rfl)) (by rw [hm])) ?_)
  refine co (Ev.sliceH Tryz.underlying22 ty3 (.t rfl) (.t rfl) (fun w I => hxs w I.keeps) (fun _ => zo)) ?_
  refine co (Ev.len Tryz.underlying22 (.t rfl) (fun w I => by have := (hxs w I.keeps).sub (l := 0) (k := m) (by omega) (by omega); simpa using this)) ?_
  refine co (Ev.move (.c (v := I 0) rfl)) ?_
  refine nP (block (lp (X := Int × OV) (fun x : Int × OV => (0 ≤ x.1 ∧ x.1 ≤ m)) (fun x : Int × OV => [(0, true, .pointer (some ⟨b, 0, none⟩)), (1, true, u), (2, true, I most), (3, true, (bnd f fst cap).v), (16, true, subS iE.size u 0 m), (17, true, I (xs.take m).length), (18, true, I x.1)]) (fun x : Int × OV => [Var b eConfFaults ⟨x.2, d⟩ 88, OwnS x.2.v eFault (fs ++ faultsUp (fun j0 : Nat => g (xs.getD j0 iE.zero) j0) d x.1.toNat) 37]) (fun x : Int × OV => ((m : Int) - x.1).toNat) (0, o) ?_ (fun x hx => ?_) (hL := (by simp only [show (0 : Int).toNat = 0 from rfl, faultsUp, List.append_nil]; repeat first | exact sR | exact sN | apply sC | apply sS | apply sA))))
  · omega
  obtain ⟨i, q⟩ := x
  have hi : 0 ≤ i ∧ i ≤ m := hx
  clear hx
  show Sat _ _ [(0, true, .pointer (some ⟨b, 0, none⟩)), (1, true, u), (2, true, I most), (3, true, (bnd f fst cap).v), (16, true, subS iE.size u 0 m), (17, true, I (xs.take m).length), (18, true, I i)] [Var b eConfFaults ⟨q, d⟩ 88, OwnS q.v eFault (fs ++ faultsUp (fun j0 : Nat => g (xs.getD j0 iE.zero) j0) d i.toNat) 37]
  refine sg (co (Ev.lss_i (.t rfl) (.t rfl)) ?_)
  refine nP (seq ?_)
  first | refine condD rfl (fun h0 => ?_) (fun h0 => ?_) | refine cond rfl (fun h0 => ?_) (fun h0 => ?_)
  · try simp only [nb] at h0
    refine skip (pN (seq (block (sg (mv rfl (co (Ev.indexAddr Tryz.underlying22 ty3 (.t rfl) (.t rfl) (fun w I => by have := (hxs w I.keeps).sub (l := 0) (k := m) (by omega) (by omega); simpa using this) (fun _ => by omega)) ?_))))))
    refine co (Ev.to (v' := iE.val (xs.getD i.toNat iE.zero)) (Ev.loadS0 ty3 (.t rfl) (fun w I => by have := (hxs w I.keeps).sub (l := 0) (k := m) (by omega) (by omega); simpa using this) (fun _ => by omega)) (congrArg iE.val (getD_take'' xs m i.toNat _ (by omega)))) ?_
    refine asn rfl (asn rfl (nP (sg (mv rfl (mv rfl (mv rfl (cons (callbv (.t rfl) hen (.cons (.t rfl) (.cons (.t rfl) .nil)) (fun w I => hk (xs.getD i.toNat iE.zero) i w (by have := hD i.toNat (by omega); rwa [show ((i.toNat : Nat) : Int) = i by omega] at this) I.keeps) ?_))))))))
    refine asn rfl (nP (sg (mv rfl (co (Ev.neq_i (.t rfl) (.c (v := I 0) rfl)) ?_))))
    refine nP ?_
    first | refine condD rfl (fun h1 => ?_) (fun h1 => ?_) | refine cond rfl (fun h1 => ?_) (fun h1 => ?_)
    · try simp only [nb] at h1
      have ei : ((i.toNat : Nat) : Int) = i := by omega
      have hst := faultsUp_bad (e := (fun j0 : Nat => g (xs.getD j0 iE.zero) j0)) (d := d) hi.1 (by (try dsimp only); rw [ei]; exact h1)
      (try dsimp only at hst)
      rw [ei] at hst
      refine draw [] zk ?_
      refine tk 0 rfl (Ev.move (.t rfl)) ?_
      refine tk 1 rfl (Ev.move (.t rfl)) ?_
      refine tk 2 rfl (Ev.nilCheck (.t rfl)) ?_
      refine tk 3 rfl (fA 0 (.t rfl)) ?_
      refine tk 5 rfl (Ev.move (.t rfl)) ?_
      refine tk 6 rfl (Ev.move (.t rfl)) ?_
      refine tk 7 rfl (Ev.nilCheck (.t rfl)) ?_
      refine tk 8 rfl (fA 1 (.t rfl)) ?_
      refine tk 10 rfl (Ev.move (.t rfl)) ?_
      refine all [4, 9] zk (by decide) (.cons rfl ?_ (.cons rfl ?_ .nil))
      · refine (opv (Ev.ldv ty31 (.t rfl) SConfFaults.l_l) ?_)
        refine hdn (al1 9 rfl ((opv (Ev.ldv ty3 (.t rfl) SConfFaults.l_at_) ?_)))
        refine hdn (tk 11 rfl (Ev.add_i (.t rfl) (.t rfl) (fun _ => by simp; omega)) ?_)
        refine tk 12 rfl (Ev.buildS (fs := _) (places := [(0, 1), (1, 1)]) z37 rfl Tryz.underlying37 zk (.cons (.t rfl) (.cons (.t rfl) .nil)) (Fills.cons SFault.l_code rfl (Fills.cons SFault.l_at_ rfl Fills.nil))) ?_
        refine al1 13 rfl ((buildSlice (E := eFault) Tryz.underlying31 ty37 z37 (.cons (.t rfl) .nil) rfl rfl (fun v1 => ?_)))
        refine hdn (al1 14 rfl ((app (E := eFault) Tryz.underlying31 ty37 zb37 zs37 (.t rfl) (.t rfl) (fun v2 => ?_) (hby := ⟨by (show _ ≤ 9223372036854775807); have := faultsUp_len (fun j0 : Nat => g (xs.getD j0 iE.zero) j0) d i.toNat; simp only [List.length_append, List.length_cons, List.length_nil]; omega, by have := faultsUp_len (fun j0 : Nat => g (xs.getD j0 iE.zero) j0) d i.toNat; simp only [List.length_append, List.length_cons, List.length_nil]; omega⟩))))
        refine hdn (tk 15 rfl (Ev.nilCheck (.t rfl)) ?_)
        refine tk 16 rfl (fA 0 (.t rfl)) ?_
        refine al1 17 rfl ((stv ty31 SConfFaults.l_l (.t rfl) (.t rfl) ?_))
        refine hdn (ovr (bN (pN (region (co (Ev.add_i (.t rfl) (.c (v := I 1) rfl) (fun _ => zo)) ?_)))))
        refine mv rfl (nP (nx (X := Int × OV) (i + 1, _) ?_ ?_ (hL := (by rw [hst]; (try rw [← List.append_assoc]); repeat first | exact sR | exact sN | apply sC | apply sS | apply sA))))
        · try dsimp only
          omega
        · try dsimp only
          omega
      · refine (opv (Ev.ldv ty3 (.t rfl) SConfFaults.l_at_) ?_)
        refine hdn (tk 11 rfl (Ev.add_i (.t rfl) (.t rfl) (fun _ => by simp; omega)) ?_)
        refine tk 12 rfl (Ev.buildS (fs := _) (places := [(0, 1), (1, 1)]) z37 rfl Tryz.underlying37 zk (.cons (.t rfl) (.cons (.t rfl) .nil)) (Fills.cons SFault.l_code rfl (Fills.cons SFault.l_at_ rfl Fills.nil))) ?_
        refine all [4, 13] zk (by decide) (.cons rfl ?_ (.cons rfl ?_ .nil))
        · refine (opv (Ev.ldv ty31 (.t rfl) SConfFaults.l_l) ?_)
          refine hdn (al1 13 rfl ((buildSlice (E := eFault) Tryz.underlying31 ty37 z37 (.cons (.t rfl) .nil) rfl rfl (fun v3 => ?_))))
          refine hdn (al1 14 rfl ((app (E := eFault) Tryz.underlying31 ty37 zb37 zs37 (.t rfl) (.t rfl) (fun v4 => ?_) (hby := ⟨by (show _ ≤ 9223372036854775807); have := faultsUp_len (fun j0 : Nat => g (xs.getD j0 iE.zero) j0) d i.toNat; simp only [List.length_append, List.length_cons, List.length_nil]; omega, by have := faultsUp_len (fun j0 : Nat => g (xs.getD j0 iE.zero) j0) d i.toNat; simp only [List.length_append, List.length_cons, List.length_nil]; omega⟩))))
          refine hdn (tk 15 rfl (Ev.nilCheck (.t rfl)) ?_)
          refine tk 16 rfl (fA 0 (.t rfl)) ?_
          refine al1 17 rfl ((stv ty31 SConfFaults.l_l (.t rfl) (.t rfl) ?_))
          refine hdn (ovr (bN (pN (region (co (Ev.add_i (.t rfl) (.c (v := I 1) rfl) (fun _ => zo)) ?_)))))
          refine mv rfl (nP (nx (X := Int × OV) (i + 1, _) ?_ ?_ (hL := (by rw [hst]; (try rw [← List.append_assoc]); repeat first | exact sR | exact sN | apply sC | apply sS | apply sA))))
          · try dsimp only
            omega
          · try dsimp only
            omega
        · refine (buildSlice (E := eFault) Tryz.underlying31 ty37 z37 (.cons (.t rfl) .nil) rfl rfl (fun v5 => ?_))
          refine hdn (al1 4 rfl ((opv (Ev.ldv ty31 (.t rfl) SConfFaults.l_l) ?_)))
          refine hdn (al1 14 rfl ((app (E := eFault) Tryz.underlying31 ty37 zb37 zs37 (.t rfl) (.t rfl) (fun v6 => ?_) (hby := ⟨by (show _ ≤ 9223372036854775807); have := faultsUp_len (fun j0 : Nat => g (xs.getD j0 iE.zero) j0) d i.toNat; simp only [List.length_append, List.length_cons, List.length_nil]; omega, by have := faultsUp_len (fun j0 : Nat => g (xs.getD j0 iE.zero) j0) d i.toNat; simp only [List.length_append, List.length_cons, List.length_nil]; omega⟩))))
          refine hdn (tk 15 rfl (Ev.nilCheck (.t rfl)) ?_)
          refine tk 16 rfl (fA 0 (.t rfl)) ?_
          refine al1 17 rfl ((stv ty31 SConfFaults.l_l (.t rfl) (.t rfl) ?_))
          refine hdn (ovr (bN (pN (region (co (Ev.add_i (.t rfl) (.c (v := I 1) rfl) (fun _ => zo)) ?_)))))
          refine mv rfl (nP (nx (X := Int × OV) (i + 1, _) ?_ ?_ (hL := (by rw [hst]; (try rw [← List.append_assoc]); repeat first | exact sR | exact sN | apply sC | apply sS | apply sA))))
          · try dsimp only
            omega
          · try dsimp only
            omega
    · try simp only [nb] at h1
      have ei : ((i.toNat : Nat) : Int) = i := by omega
      have hst := faultsUp_ok (e := (fun j0 : Nat => g (xs.getD j0 iE.zero) j0)) (d := d) hi.1 (by (try dsimp only); rw [ei]; exact h1)
      refine skip (bN (pN (region (co (Ev.add_i (.t rfl) (.c (v := I 1) rfl) (fun _ => zo)) ?_))))
      refine mv rfl (nP (nx (X := Int × OV) (i + 1, _) ?_ ?_ (hL := (by rw [hst]; (try rw [← List.append_assoc]); repeat first | exact sR | exact sN | apply sC | apply sS | apply sA))))
      · try dsimp only
        omega
      · try dsimp only
        omega
  · try simp only [nb] at h0
    refine exit (pX (pX (bX (pN (cut (X := OV) (fun x : OV => True) (fun x : OV => [(0, true, .pointer (some ⟨b, 0, none⟩)), (1, true, u)]) (fun x : OV => [Var b eConfFaults ⟨x, d⟩ 88, OwnS x.v eFault (fs ++ listG (fun j0 : Nat => g (xs.getD j0 iE.zero) j0) d xs.length most) 37]) ?_ (fun x hx => ?_))))))
    · refine sg ?_
      have him : i.toNat = m := by omega
      rw [him]
      refine mv rfl (co (Ev.len Tryz.underlying22 (.t rfl) (fun w I => hxs w I.keeps)) ?_)
      refine mv rfl (co (Ev.gtr_i (.t rfl) (.t rfl)) ?_)
      refine nP ?_
      first | refine condD rfl (fun h2 => ?_) (fun h2 => ?_) | refine cond rfl (fun h2 => ?_) (fun h2 => ?_)
      · try simp only [nb] at h2
        refine draw [] zk ?_
        refine tk 0 rfl (Ev.move (.t rfl)) ?_
        refine tk 1 rfl (Ev.move (.t rfl)) ?_
        refine tk 2 rfl (Ev.nilCheck (.t rfl)) ?_
        refine tk 3 rfl (fA 0 (.t rfl)) ?_
        refine tk 5 rfl (Ev.move (.t rfl)) ?_
        refine tk 6 rfl (Ev.nilCheck (.t rfl)) ?_
        refine tk 7 rfl (fA 1 (.t rfl)) ?_
        refine tk 9 rfl (Ev.move (.t rfl)) ?_
        refine all [4, 8] zk (by decide) (.cons rfl ?_ (.cons rfl ?_ .nil))
        · refine (opv (Ev.ldv ty31 (.t rfl) SConfFaults.l_l) ?_)
          refine hdn (al1 8 rfl ((opv (Ev.ldv ty3 (.t rfl) SConfFaults.l_at_) ?_)))
          refine hdn (tk 10 rfl (Ev.add_i (.t rfl) (.t rfl) (fun _ => by simp; omega)) ?_)
          refine tk 11 rfl (Ev.buildS (fs := _) (places := [(0, 1), (1, 1)]) z37 rfl Tryz.underlying37 zk (.cons (.c (v := I 4) rfl) (.cons (.t rfl) .nil)) (Fills.cons SFault.l_code rfl (Fills.cons SFault.l_at_ rfl Fills.nil))) ?_
          refine al1 12 rfl ((buildSlice (E := eFault) Tryz.underlying31 ty37 z37 (.cons (.t rfl) .nil) rfl rfl (fun v7 => ?_)))
          refine hdn (al1 13 rfl ((app (E := eFault) Tryz.underlying31 ty37 zb37 zs37 (.t rfl) (.t rfl) (fun v8 => ?_) (hby := ⟨by (show _ ≤ 9223372036854775807); have := faultsUp_len (fun j0 : Nat => g (xs.getD j0 iE.zero) j0) d m; simp only [List.length_append, List.length_cons, List.length_nil]; omega, by have := faultsUp_len (fun j0 : Nat => g (xs.getD j0 iE.zero) j0) d m; simp only [List.length_append, List.length_cons, List.length_nil]; omega⟩))))
          refine hdn (tk 14 rfl (Ev.nilCheck (.t rfl)) ?_)
          refine tk 15 rfl (fA 0 (.t rfl)) ?_
          refine al1 16 rfl ((stv ty31 SConfFaults.l_l (.t rfl) (.t rfl) ?_))
          refine hdn (ovr (pN (mt (X := OV) (_) trivial (hL := (by unfold listG; rw [← hm2]; (first | rw [if_pos (by omega), ← List.append_assoc] | rw [if_neg (by omega), List.append_nil]); repeat first | exact sR | exact sN | apply sC | apply sS | apply sA)))))
        · refine (opv (Ev.ldv ty3 (.t rfl) SConfFaults.l_at_) ?_)
          refine hdn (tk 10 rfl (Ev.add_i (.t rfl) (.t rfl) (fun _ => by simp; omega)) ?_)
          refine tk 11 rfl (Ev.buildS (fs := _) (places := [(0, 1), (1, 1)]) z37 rfl Tryz.underlying37 zk (.cons (.c (v := I 4) rfl) (.cons (.t rfl) .nil)) (Fills.cons SFault.l_code rfl (Fills.cons SFault.l_at_ rfl Fills.nil))) ?_
          refine all [4, 12] zk (by decide) (.cons rfl ?_ (.cons rfl ?_ .nil))
          · refine (opv (Ev.ldv ty31 (.t rfl) SConfFaults.l_l) ?_)
            refine hdn (al1 12 rfl ((buildSlice (E := eFault) Tryz.underlying31 ty37 z37 (.cons (.t rfl) .nil) rfl rfl (fun v9 => ?_))))
            refine hdn (al1 13 rfl ((app (E := eFault) Tryz.underlying31 ty37 zb37 zs37 (.t rfl) (.t rfl) (fun v10 => ?_) (hby := ⟨by (show _ ≤ 9223372036854775807); have := faultsUp_len (fun j0 : Nat => g (xs.getD j0 iE.zero) j0) d m; simp only [List.length_append, List.length_cons, List.length_nil]; omega, by have := faultsUp_len (fun j0 : Nat => g (xs.getD j0 iE.zero) j0) d m; simp only [List.length_append, List.length_cons, List.length_nil]; omega⟩))))
            refine hdn (tk 14 rfl (Ev.nilCheck (.t rfl)) ?_)
            refine tk 15 rfl (fA 0 (.t rfl)) ?_
            refine al1 16 rfl ((stv ty31 SConfFaults.l_l (.t rfl) (.t rfl) ?_))
            refine hdn (ovr (pN (mt (X := OV) (_) trivial (hL := (by unfold listG; rw [← hm2]; (first | rw [if_pos (by omega), ← List.append_assoc] | rw [if_neg (by omega), List.append_nil]); repeat first | exact sR | exact sN | apply sC | apply sS | apply sA)))))
          · refine (buildSlice (E := eFault) Tryz.underlying31 ty37 z37 (.cons (.t rfl) .nil) rfl rfl (fun v11 => ?_))
            refine hdn (al1 4 rfl ((opv (Ev.ldv ty31 (.t rfl) SConfFaults.l_l) ?_)))
            refine hdn (al1 13 rfl ((app (E := eFault) Tryz.underlying31 ty37 zb37 zs37 (.t rfl) (.t rfl) (fun v12 => ?_) (hby := ⟨by (show _ ≤ 9223372036854775807); have := faultsUp_len (fun j0 : Nat => g (xs.getD j0 iE.zero) j0) d m; simp only [List.length_append, List.length_cons, List.length_nil]; omega, by have := faultsUp_len (fun j0 : Nat => g (xs.getD j0 iE.zero) j0) d m; simp only [List.length_append, List.length_cons, List.length_nil]; omega⟩))))
            refine hdn (tk 14 rfl (Ev.nilCheck (.t rfl)) ?_)
            refine tk 15 rfl (fA 0 (.t rfl)) ?_
            refine al1 16 rfl ((stv ty31 SConfFaults.l_l (.t rfl) (.t rfl) ?_))
            refine hdn (ovr (pN (mt (X := OV) (_) trivial (hL := (by unfold listG; rw [← hm2]; (first | rw [if_pos (by omega), ← List.append_assoc] | rw [if_neg (by omega), List.append_nil]); repeat first | exact sR | exact sN | apply sC | apply sS | apply sA)))))
      · try simp only [nb] at h2
        refine skip (pN (mt (X := OV) (_) trivial (hL := (by unfold listG; rw [← hm2]; (first | rw [if_pos (by omega), ← List.append_assoc] | rw [if_neg (by omega), List.append_nil]); repeat first | exact sR | exact sN | apply sC | apply sS | apply sA))))
    obtain ⟨q2, rfl⟩ : ∃ y, y = x := ⟨x, rfl⟩
    show Sat _ _ [(0, true, .pointer (some ⟨b, 0, none⟩)), (1, true, u)] [Var b eConfFaults ⟨q2, d⟩ 88, OwnS q2.v eFault (fs ++ listG (fun j0 : Nat => g (xs.getD j0 iE.zero) j0) d xs.length most) 37]
    refine region (mv rfl (co (Ev.nilCheck (.t rfl)) ?_))
    refine co (fA 1 (.t rfl)) ?_
    refine co (Ev.ldv ty3 (.t rfl) SConfFaults.l_at_) ?_
    refine mv rfl (co (Ev.len Tryz.underlying22 (.t rfl) (fun w I => hxs w I.keeps)) ?_)
    refine co (Ev.add_i (.t rfl) (.t rfl) (fun _ => by simp; omega)) ?_
    refine co (Ev.nilCheck (.t rfl)) ?_
    refine co (fA 1 (.t rfl)) ?_
    refine cons (stv ty3 SConfFaults.l_at_ (.t rfl) (.t rfl) ?_)
    refine nil (done' rfl .nil (fun w I => ?_))
    exact retR (r' := fun o2 => FR b o2 (fs ++ listG (fun j0 : Nat => g (xs.getD j0 iE.zero) j0) d xs.length most) (d + xs.length)) _ trivial rfl (List.mem_singleton_self _) w (WInv.sepIn (I.sub zs))
theorem list_52 (f : Nat) (fst cap : List Value) (g : SRoute → Int → Int) (D : SRoute → Int → Prop) (b : Nat) (o : OV) (fs : List SFault) (d : Int) (u : Value) (xs : List SRoute) (most : Nat) (w : World) (hen : Gx.Enters Tryz.prog f) (h : At (FR b o fs d) w) (hxs : ∀ w1, Keeps (FR b o fs d).foot w w1 → IsSl eRoute w1 u xs) (hk : FnB2 Tryz.prog f fst cap (FR b o fs d).foot w eRoute iE iE D g) (hD : ∀ i : Nat, i < xs.length → D (xs.getD i eRoute.zero) i) (hd : 0 ≤ d ∧ d + xs.length ≤ 4611686018427387904) (hf : fs.length + most ≤ 100000) : Calls Tryz.prog 39 #[.pointer (some ⟨b, 0, none⟩), u, I most, (bnd f fst cap).v] w (RetR w (FR b o fs d) (fun _ : OV => True) (fun _ => .tuple #[]) (fun o2 => FR b o2 (fs ++ listG (fun j0 : Nat => g (xs.getD j0 eRoute.zero) j0) d xs.length most) (d + xs.length))) := by
  obtain ⟨m, hm⟩ : ∃ m : Nat, (min (xs.length : Int) (most : Int)) = (m : Int) := ⟨min xs.length most, by omega⟩
  have hm2 : m = min xs.length most := by omega
  have hle := (hxs w (Keeps.refl _ _)).le
  have htl : (xs.take m).length = m := by simp; omega
  refine enter (FR b o fs d).foot 76 [FR b o fs d] Tryz.func39 rfl rfl (Nat.le_of_ble_eq_true rfl) (start_at h) ?_
  refine sepOut Rem.head ?_
  refine seq (sg (mv rfl (mv rfl (co (Ev.len Tryz.underlying23 (.t rfl) (fun w I => hxs w I.keeps)) ?_))))
  refine mv rfl (co (Ev.to (v' := I ((m : Nat) : Int)) (Ev.min_i (.t rfl) (.t rfl)) (by rw [hm])) ?_)
  refine co (Ev.sliceH Tryz.underlying23 ty52 (.t rfl) (.t rfl) (fun w I => hxs w I.keeps) (fun _ => zo)) ?_
  refine co (Ev.len Tryz.underlying23 (.t rfl) (fun w I => by have := (hxs w I.keeps).sub (l := 0) (k := m) (by omega) (by omega); simpa using this)) ?_
  refine co (Ev.move (.c (v := I 0) rfl)) ?_
  refine nP (block (lp (X := Int × OV) (fun x : Int × OV => (0 ≤ x.1 ∧ x.1 ≤ m)) (fun x : Int × OV => [(0, true, .pointer (some ⟨b, 0, none⟩)), (1, true, u), (2, true, I most), (3, true, (bnd f fst cap).v), (16, true, subS eRoute.size u 0 m), (17, true, I (xs.take m).length), (18, true, I x.1)]) (fun x : Int × OV => [Var b eConfFaults ⟨x.2, d⟩ 88, OwnS x.2.v eFault (fs ++ faultsUp (fun j0 : Nat => g (xs.getD j0 eRoute.zero) j0) d x.1.toNat) 37]) (fun x : Int × OV => ((m : Int) - x.1).toNat) (0, o) ?_ (fun x hx => ?_) (hL := (by simp only [show (0 : Int).toNat = 0 from rfl, faultsUp, List.append_nil]; repeat first | exact sR | exact sN | apply sC | apply sS | apply sA))))
  · omega
  obtain ⟨i, q⟩ := x
  have hi : 0 ≤ i ∧ i ≤ m := hx
  clear hx
  show Sat _ _ [(0, true, .pointer (some ⟨b, 0, none⟩)), (1, true, u), (2, true, I most), (3, true, (bnd f fst cap).v), (16, true, subS eRoute.size u 0 m), (17, true, I (xs.take m).length), (18, true, I i)] [Var b eConfFaults ⟨q, d⟩ 88, OwnS q.v eFault (fs ++ faultsUp (fun j0 : Nat => g (xs.getD j0 eRoute.zero) j0) d i.toNat) 37]
  refine sg (co (Ev.lss_i (.t rfl) (.t rfl)) ?_)
  refine nP (seq ?_)
  first | refine condD rfl (fun h0 => ?_) (fun h0 => ?_) | refine cond rfl (fun h0 => ?_) (fun h0 => ?_)
  · try simp only [nb] at h0
    refine skip (pN (seq (block (sg (mv rfl (co (Ev.indexAddr Tryz.underlying23 ty52 (.t rfl) (.t rfl) (fun w I => by have := (hxs w I.keeps).sub (l := 0) (k := m) (by omega) (by omega); simpa using this) (fun _ => by omega)) ?_))))))
    refine co (Ev.to (v' := eRoute.val (xs.getD i.toNat eRoute.zero)) (Ev.loadS0 ty52 (.t rfl) (fun w I => by have := (hxs w I.keeps).sub (l := 0) (k := m) (by omega) (by omega); simpa using this) (fun _ => by omega)) (congrArg eRoute.val (getD_take'' xs m i.toNat _ (by omega)))) ?_
    refine cons (alloc z52 (fun b1 => ?_))
    refine asn rfl (cons (stv ty52 (Lens.id _) (.t rfl) (.t rfl) ?_))
    refine nP (sg (mv rfl (co (Ev.ldv ty52 (.t rfl) (Lens.id _)) ?_)))
    refine mv rfl (cons (callbv (.t rfl) hen (.cons (.t rfl) (.cons (.t rfl) .nil)) (fun w I => hk (xs.getD i.toNat eRoute.zero) i w (by have := hD i.toNat (by omega); rwa [show ((i.toNat : Nat) : Int) = i by omega] at this) I.keeps) ?_))
    refine asn rfl (nP (sg (mv rfl (co (Ev.neq_i (.t rfl) (.c (v := I 0) rfl)) ?_))))
    refine nP ?_
    first | refine condD rfl (fun h1 => ?_) (fun h1 => ?_) | refine cond rfl (fun h1 => ?_) (fun h1 => ?_)
    · try simp only [nb] at h1
      have ei : ((i.toNat : Nat) : Int) = i := by omega
      have hst := faultsUp_bad (e := (fun j0 : Nat => g (xs.getD j0 eRoute.zero) j0)) (d := d) hi.1 (by (try dsimp only); rw [ei]; exact h1)
      (try dsimp only at hst)
      rw [ei] at hst
      refine draw [] zk ?_
      refine tk 0 rfl (Ev.move (.t rfl)) ?_
      refine tk 1 rfl (Ev.move (.t rfl)) ?_
      refine tk 2 rfl (Ev.nilCheck (.t rfl)) ?_
      refine tk 3 rfl (fA 0 (.t rfl)) ?_
      refine tk 5 rfl (Ev.move (.t rfl)) ?_
      refine tk 6 rfl (Ev.move (.t rfl)) ?_
      refine tk 7 rfl (Ev.nilCheck (.t rfl)) ?_
      refine tk 8 rfl (fA 1 (.t rfl)) ?_
      refine tk 10 rfl (Ev.move (.t rfl)) ?_
      refine all [4, 9] zk (by decide) (.cons rfl ?_ (.cons rfl ?_ .nil))
      · refine (opv (Ev.ldv ty31 (.t rfl) SConfFaults.l_l) ?_)
        refine hdn (al1 9 rfl ((opv (Ev.ldv ty3 (.t rfl) SConfFaults.l_at_) ?_)))
        refine hdn (tk 11 rfl (Ev.add_i (.t rfl) (.t rfl) (fun _ => by simp; omega)) ?_)
        refine tk 12 rfl (Ev.buildS (fs := _) (places := [(0, 1), (1, 1)]) z37 rfl Tryz.underlying37 zk (.cons (.t rfl) (.cons (.t rfl) .nil)) (Fills.cons SFault.l_code rfl (Fills.cons SFault.l_at_ rfl Fills.nil))) ?_
        refine al1 13 rfl ((buildSlice (E := eFault) Tryz.underlying31 ty37 z37 (.cons (.t rfl) .nil) rfl rfl (fun v2 => ?_)))
        refine hdn (al1 14 rfl ((app (E := eFault) Tryz.underlying31 ty37 zb37 zs37 (.t rfl) (.t rfl) (fun v3 => ?_) (hby := ⟨by (show _ ≤ 9223372036854775807); have := faultsUp_len (fun j0 : Nat => g (xs.getD j0 eRoute.zero) j0) d i.toNat; simp only [List.length_append, List.length_cons, List.length_nil]; omega, by have := faultsUp_len (fun j0 : Nat => g (xs.getD j0 eRoute.zero) j0) d i.toNat; simp only [List.length_append, List.length_cons, List.length_nil]; omega⟩))))
        refine hdn (tk 15 rfl (Ev.nilCheck (.t rfl)) ?_)
        refine tk 16 rfl (fA 0 (.t rfl)) ?_
        refine al1 17 rfl ((stv ty31 SConfFaults.l_l (.t rfl) (.t rfl) ?_))
        refine hdn (ovr (bN (pN (region (co (Ev.add_i (.t rfl) (.c (v := I 1) rfl) (fun _ => zo)) ?_)))))
        refine mv rfl (nP (nx (X := Int × OV) (i + 1, _) ?_ ?_ (hL := (by rw [hst]; (try rw [← List.append_assoc]); repeat first | exact sR | exact sN | apply sC | apply sS | apply sA))))
        · try dsimp only
          omega
        · try dsimp only
          omega
      · refine (opv (Ev.ldv ty3 (.t rfl) SConfFaults.l_at_) ?_)
        refine hdn (tk 11 rfl (Ev.add_i (.t rfl) (.t rfl) (fun _ => by simp; omega)) ?_)
        refine tk 12 rfl (Ev.buildS (fs := _) (places := [(0, 1), (1, 1)]) z37 rfl Tryz.underlying37 zk (.cons (.t rfl) (.cons (.t rfl) .nil)) (Fills.cons SFault.l_code rfl (Fills.cons SFault.l_at_ rfl Fills.nil))) ?_
        refine all [4, 13] zk (by decide) (.cons rfl ?_ (.cons rfl ?_ .nil))
        · refine (opv (Ev.ldv ty31 (.t rfl) SConfFaults.l_l) ?_)
          refine hdn (al1 13 rfl ((buildSlice (E := eFault) Tryz.underlying31 ty37 z37 (.cons (.t rfl) .nil) rfl rfl (fun v4 => ?_))))
          refine hdn (al1 14 rfl ((app (E := eFault) Tryz.underlying31 ty37 zb37 zs37 (.t rfl) (.t rfl) (fun v5 => ?_) (hby := ⟨by (show _ ≤ 9223372036854775807); have := faultsUp_len (fun j0 : Nat => g (xs.getD j0 eRoute.zero) j0) d i.toNat; simp only [List.length_append, List.length_cons, List.length_nil]; omega, by have := faultsUp_len (fun j0 : Nat => g (xs.getD j0 eRoute.zero) j0) d i.toNat; simp only [List.length_append, List.length_cons, List.length_nil]; omega⟩))))
          refine hdn (tk 15 rfl (Ev.nilCheck (.t rfl)) ?_)
          refine tk 16 rfl (fA 0 (.t rfl)) ?_
          refine al1 17 rfl ((stv ty31 SConfFaults.l_l (.t rfl) (.t rfl) ?_))
          refine hdn (ovr (bN (pN (region (co (Ev.add_i (.t rfl) (.c (v := I 1) rfl) (fun _ => zo)) ?_)))))
          refine mv rfl (nP (nx (X := Int × OV) (i + 1, _) ?_ ?_ (hL := (by rw [hst]; (try rw [← List.append_assoc]); repeat first | exact sR | exact sN | apply sC | apply sS | apply sA))))
          · try dsimp only
            omega
          · try dsimp only
            omega
        · refine (buildSlice (E := eFault) Tryz.underlying31 ty37 z37 (.cons (.t rfl) .nil) rfl rfl (fun v6 => ?_))
          refine hdn (al1 4 rfl ((opv (Ev.ldv ty31 (.t rfl) SConfFaults.l_l) ?_)))
          refine hdn (al1 14 rfl ((app (E := eFault) Tryz.underlying31 ty37 zb37 zs37 (.t rfl) (.t rfl) (fun v7 => ?_) (hby := ⟨by (show _ ≤ 9223372036854775807); have := faultsUp_len (fun j0 : Nat => g (xs.getD j0 eRoute.zero) j0) d i.toNat; simp only [List.length_append, List.length_cons, List.length_nil]; omega, by have := faultsUp_len (fun j0 : Nat => g (xs.getD j0 eRoute.zero) j0) d i.toNat; simp only [List.length_append, List.length_cons, List.length_nil]; omega⟩))))
          refine hdn (tk 15 rfl (Ev.nilCheck (.t rfl)) ?_)
          refine tk 16 rfl (fA 0 (.t rfl)) ?_
          refine al1 17 rfl ((stv ty31 SConfFaults.l_l (.t rfl) (.t rfl) ?_))
          refine hdn (ovr (bN (pN (region (co (Ev.add_i (.t rfl) (.c (v := I 1) rfl) (fun _ => zo)) ?_)))))
          refine mv rfl (nP (nx (X := Int × OV) (i + 1, _) ?_ ?_ (hL := (by rw [hst]; (try rw [← List.append_assoc]); repeat first | exact sR | exact sN | apply sC | apply sS | apply sA))))
          · try dsimp only
            omega
          · try dsimp only
            omega
    · try simp only [nb] at h1
      have ei : ((i.toNat : Nat) : Int) = i := by omega
      have hst := faultsUp_ok (e := (fun j0 : Nat => g (xs.getD j0 eRoute.zero) j0)) (d := d) hi.1 (by (try dsimp only); rw [ei]; exact h1)
      refine skip (bN (pN (region (co (Ev.add_i (.t rfl) (.c (v := I 1) rfl) (fun _ => zo)) ?_))))
      refine mv rfl (nP (nx (X := Int × OV) (i + 1, _) ?_ ?_ (hL := (by rw [hst]; (try rw [← List.append_assoc]); repeat first | exact sR | exact sN | apply sC | apply sS | apply sA))))
      · try dsimp only
        omega
      · try dsimp only
        omega
  · try simp only [nb] at h0
    refine exit (pX (pX (bX (pN (cut (X := OV) (fun x : OV => True) (fun x : OV => [(0, true, .pointer (some ⟨b, 0, none⟩)), (1, true, u)]) (fun x : OV => [Var b eConfFaults ⟨x, d⟩ 88, OwnS x.v eFault (fs ++ listG (fun j0 : Nat => g (xs.getD j0 eRoute.zero) j0) d xs.length most) 37]) ?_ (fun x hx => ?_))))))
    · refine sg ?_
      have him : i.toNat = m := by omega
      rw [him]
      refine mv rfl (co (Ev.len Tryz.underlying23 (.t rfl) (fun w I => hxs w I.keeps)) ?_)
      refine mv rfl (co (Ev.gtr_i (.t rfl) (.t rfl)) ?_)
      refine nP ?_
      first | refine condD rfl (fun h2 => ?_) (fun h2 => ?_) | refine cond rfl (fun h2 => ?_) (fun h2 => ?_)
      · try simp only [nb] at h2
        refine draw [] zk ?_
        refine tk 0 rfl (Ev.move (.t rfl)) ?_
        refine tk 1 rfl (Ev.move (.t rfl)) ?_
        refine tk 2 rfl (Ev.nilCheck (.t rfl)) ?_
        refine tk 3 rfl (fA 0 (.t rfl)) ?_
        refine tk 5 rfl (Ev.move (.t rfl)) ?_
        refine tk 6 rfl (Ev.nilCheck (.t rfl)) ?_
        refine tk 7 rfl (fA 1 (.t rfl)) ?_
        refine tk 9 rfl (Ev.move (.t rfl)) ?_
        refine all [4, 8] zk (by decide) (.cons rfl ?_ (.cons rfl ?_ .nil))
        · refine (opv (Ev.ldv ty31 (.t rfl) SConfFaults.l_l) ?_)
          refine hdn (al1 8 rfl ((opv (Ev.ldv ty3 (.t rfl) SConfFaults.l_at_) ?_)))
          refine hdn (tk 10 rfl (Ev.add_i (.t rfl) (.t rfl) (fun _ => by simp; omega)) ?_)
          refine tk 11 rfl (Ev.buildS (fs := _) (places := [(0, 1), (1, 1)]) z37 rfl Tryz.underlying37 zk (.cons (.c (v := I 4) rfl) (.cons (.t rfl) .nil)) (Fills.cons SFault.l_code rfl (Fills.cons SFault.l_at_ rfl Fills.nil))) ?_
          refine al1 12 rfl ((buildSlice (E := eFault) Tryz.underlying31 ty37 z37 (.cons (.t rfl) .nil) rfl rfl (fun v8 => ?_)))
          refine hdn (al1 13 rfl ((app (E := eFault) Tryz.underlying31 ty37 zb37 zs37 (.t rfl) (.t rfl) (fun v9 => ?_) (hby := ⟨by (show _ ≤ 9223372036854775807); have := faultsUp_len (fun j0 : Nat => g (xs.getD j0 eRoute.zero) j0) d m; simp only [List.length_append, List.length_cons, List.length_nil]; omega, by have := faultsUp_len (fun j0 : Nat => g (xs.getD j0 eRoute.zero) j0) d m; simp only [List.length_append, List.length_cons, List.length_nil]; omega⟩))))
          refine hdn (tk 14 rfl (Ev.nilCheck (.t rfl)) ?_)
          refine tk 15 rfl (fA 0 (.t rfl)) ?_
          refine al1 16 rfl ((stv ty31 SConfFaults.l_l (.t rfl) (.t rfl) ?_))
          refine hdn (ovr (pN (mt (X := OV) (_) trivial (hL := (by unfold listG; rw [← hm2]; (first | rw [if_pos (by omega), ← List.append_assoc] | rw [if_neg (by omega), List.append_nil]); repeat first | exact sR | exact sN | apply sC | apply sS | apply sA)))))
        · refine (opv (Ev.ldv ty3 (.t rfl) SConfFaults.l_at_) ?_)
          refine hdn (tk 10 rfl (Ev.add_i (.t rfl) (.t rfl) (fun _ => by simp; omega)) ?_)
          refine tk 11 rfl (Ev.buildS (fs := _) (places := [(0, 1), (1, 1)]) z37 rfl Tryz.underlying37 zk (.cons (.c (v := I 4) rfl) (.cons (.t rfl) .nil)) (Fills.cons SFault.l_code rfl (Fills.cons SFault.l_at_ rfl Fills.nil))) ?_
          refine all [4, 12] zk (by decide) (.cons rfl ?_ (.cons rfl ?_ .nil))
          · refine (opv (Ev.ldv ty31 (.t rfl) SConfFaults.l_l) ?_)
            refine hdn (al1 12 rfl ((buildSlice (E := eFault) Tryz.underlying31 ty37 z37 (.cons (.t rfl) .nil) rfl rfl (fun v10 => ?_))))
            refine hdn (al1 13 rfl ((app (E := eFault) Tryz.underlying31 ty37 zb37 zs37 (.t rfl) (.t rfl) (fun v11 => ?_) (hby := ⟨by (show _ ≤ 9223372036854775807); have := faultsUp_len (fun j0 : Nat => g (xs.getD j0 eRoute.zero) j0) d m; simp only [List.length_append, List.length_cons, List.length_nil]; omega, by have := faultsUp_len (fun j0 : Nat => g (xs.getD j0 eRoute.zero) j0) d m; simp only [List.length_append, List.length_cons, List.length_nil]; omega⟩))))
            refine hdn (tk 14 rfl (Ev.nilCheck (.t rfl)) ?_)
            refine tk 15 rfl (fA 0 (.t rfl)) ?_
            refine al1 16 rfl ((stv ty31 SConfFaults.l_l (.t rfl) (.t rfl) ?_))
            refine hdn (ovr (pN (mt (X := OV) (_) trivial (hL := (by unfold listG; rw [← hm2]; (first | rw [if_pos (by omega), ← List.append_assoc] | rw [if_neg (by omega), List.append_nil]); repeat first | exact sR | exact sN | apply sC | apply sS | apply sA)))))
          · refine (buildSlice (E := eFault) Tryz.underlying31 ty37 z37 (.cons (.t rfl) .nil) rfl rfl (fun v12 => ?_))
            refine hdn (al1 4 rfl ((opv (Ev.ldv ty31 (.t rfl) SConfFaults.l_l) ?_)))
            refine hdn (al1 13 rfl ((app (E := eFault) Tryz.underlying31 ty37 zb37 zs37 (.t rfl) (.t rfl) (fun v13 => ?_) (hby := ⟨by (show _ ≤ 9223372036854775807); have := faultsUp_len (fun j0 : Nat => g (xs.getD j0 eRoute.zero) j0) d m; simp only [List.length_append, List.length_cons, List.length_nil]; omega, by have := faultsUp_len (fun j0 : Nat => g (xs.getD j0 eRoute.zero) j0) d m; simp only [List.length_append, List.length_cons, List.length_nil]; omega⟩))))
            refine hdn (tk 14 rfl (Ev.nilCheck (.t rfl)) ?_)
            refine tk 15 rfl (fA 0 (.t rfl)) ?_
            refine al1 16 rfl ((stv ty31 SConfFaults.l_l (.t rfl) (.t rfl) ?_))
            refine hdn (ovr (pN (mt (X := OV) (_) trivial (hL := (by unfold listG; rw [← hm2]; (first | rw [if_pos (by omega), ← List.append_assoc] | rw [if_neg (by omega), List.append_nil]); repeat first | exact sR | exact sN | apply sC | apply sS | apply sA)))))
      · try simp only [nb] at h2
        refine skip (pN (mt (X := OV) (_) trivial (hL := (by unfold listG; rw [← hm2]; (first | rw [if_pos (by omega), ← List.append_assoc] | rw [if_neg (by omega), List.append_nil]); repeat first | exact sR | exact sN | apply sC | apply sS | apply sA))))
    obtain ⟨q2, rfl⟩ : ∃ y, y = x := ⟨x, rfl⟩
    show Sat _ _ [(0, true, .pointer (some ⟨b, 0, none⟩)), (1, true, u)] [Var b eConfFaults ⟨q2, d⟩ 88, OwnS q2.v eFault (fs ++ listG (fun j0 : Nat => g (xs.getD j0 eRoute.zero) j0) d xs.length most) 37]
    refine region (mv rfl (co (Ev.nilCheck (.t rfl)) ?_))
    refine co (fA 1 (.t rfl)) ?_
    refine co (Ev.ldv ty3 (.t rfl) SConfFaults.l_at_) ?_
    refine mv rfl (co (Ev.len Tryz.underlying23 (.t rfl) (fun w I => hxs w I.keeps)) ?_)
    refine co (Ev.add_i (.t rfl) (.t rfl) (fun _ => by simp; omega)) ?_
    refine co (Ev.nilCheck (.t rfl)) ?_
    refine co (fA 1 (.t rfl)) ?_
    refine cons (stv ty3 SConfFaults.l_at_ (.t rfl) (.t rfl) ?_)
    refine nil (done' rfl .nil (fun w I => ?_))
    exact retR (r' := fun o2 => FR b o2 (fs ++ listG (fun j0 : Nat => g (xs.getD j0 eRoute.zero) j0) d xs.length most) (d + xs.length)) _ trivial rfl (List.mem_singleton_self _) w (WInv.sepIn (I.sub zs))
theorem list_76 (f : Nat) (fst cap : List Value) (g : SRule → Int → Int) (D : SRule → Int → Prop) (b : Nat) (o : OV) (fs : List SFault) (d : Int) (u : Value) (xs : List SRule) (most : Nat) (w : World) (hen : Gx.Enters Tryz.prog f) (h : At (FR b o fs d) w) (hxs : ∀ w1, Keeps (FR b o fs d).foot w w1 → IsSl eRule w1 u xs) (hk : FnB2 Tryz.prog f fst cap (FR b o fs d).foot w eRule iE iE D g) (hD : ∀ i : Nat, i < xs.length → D (xs.getD i eRule.zero) i) (hd : 0 ≤ d ∧ d + xs.length ≤ 4611686018427387904) (hf : fs.length + most ≤ 100000) : Calls Tryz.prog 41 #[.pointer (some ⟨b, 0, none⟩), u, I most, (bnd f fst cap).v] w (RetR w (FR b o fs d) (fun _ : OV => True) (fun _ => .tuple #[]) (fun o2 => FR b o2 (fs ++ listG (fun j0 : Nat => g (xs.getD j0 eRule.zero) j0) d xs.length most) (d + xs.length))) := by
  obtain ⟨m, hm⟩ : ∃ m : Nat, (min (xs.length : Int) (most : Int)) = (m : Int) := ⟨min xs.length most, by omega⟩
  have hm2 : m = min xs.length most := by omega
  have hle := (hxs w (Keeps.refl _ _)).le
  have htl : (xs.take m).length = m := by simp; omega
  refine enter (FR b o fs d).foot 76 [FR b o fs d] Tryz.func41 rfl rfl (Nat.le_of_ble_eq_true rfl) (start_at h) ?_
  refine sepOut Rem.head ?_
  refine seq (sg (mv rfl (mv rfl (co (Ev.len Tryz.underlying24 (.t rfl) (fun w I => hxs w I.keeps)) ?_))))
  refine mv rfl (co (Ev.to (v' := I ((m : Nat) : Int)) (Ev.min_i (.t rfl) (.t rfl)) (by rw [hm])) ?_)
  refine co (Ev.sliceH Tryz.underlying24 ty76 (.t rfl) (.t rfl) (fun w I => hxs w I.keeps) (fun _ => zo)) ?_
  refine co (Ev.len Tryz.underlying24 (.t rfl) (fun w I => by have := (hxs w I.keeps).sub (l := 0) (k := m) (by omega) (by omega); simpa using this)) ?_
  refine co (Ev.move (.c (v := I 0) rfl)) ?_
  refine nP (block (lp (X := Int × OV) (fun x : Int × OV => (0 ≤ x.1 ∧ x.1 ≤ m)) (fun x : Int × OV => [(0, true, .pointer (some ⟨b, 0, none⟩)), (1, true, u), (2, true, I most), (3, true, (bnd f fst cap).v), (16, true, subS eRule.size u 0 m), (17, true, I (xs.take m).length), (18, true, I x.1)]) (fun x : Int × OV => [Var b eConfFaults ⟨x.2, d⟩ 88, OwnS x.2.v eFault (fs ++ faultsUp (fun j0 : Nat => g (xs.getD j0 eRule.zero) j0) d x.1.toNat) 37]) (fun x : Int × OV => ((m : Int) - x.1).toNat) (0, o) ?_ (fun x hx => ?_) (hL := (by simp only [show (0 : Int).toNat = 0 from rfl, faultsUp, List.append_nil]; repeat first | exact sR | exact sN | apply sC | apply sS | apply sA))))
  · omega
  obtain ⟨i, q⟩ := x
  have hi : 0 ≤ i ∧ i ≤ m := hx
  clear hx
  show Sat _ _ [(0, true, .pointer (some ⟨b, 0, none⟩)), (1, true, u), (2, true, I most), (3, true, (bnd f fst cap).v), (16, true, subS eRule.size u 0 m), (17, true, I (xs.take m).length), (18, true, I i)] [Var b eConfFaults ⟨q, d⟩ 88, OwnS q.v eFault (fs ++ faultsUp (fun j0 : Nat => g (xs.getD j0 eRule.zero) j0) d i.toNat) 37]
  refine sg (co (Ev.lss_i (.t rfl) (.t rfl)) ?_)
  refine nP (seq ?_)
  first | refine condD rfl (fun h0 => ?_) (fun h0 => ?_) | refine cond rfl (fun h0 => ?_) (fun h0 => ?_)
  · try simp only [nb] at h0
    refine skip (pN (seq (block (sg (mv rfl (co (Ev.indexAddr Tryz.underlying24 ty76 (.t rfl) (.t rfl) (fun w I => by have := (hxs w I.keeps).sub (l := 0) (k := m) (by omega) (by omega); simpa using this) (fun _ => by omega)) ?_))))))
    refine co (Ev.to (v' := eRule.val (xs.getD i.toNat eRule.zero)) (Ev.loadS0 ty76 (.t rfl) (fun w I => by have := (hxs w I.keeps).sub (l := 0) (k := m) (by omega) (by omega); simpa using this) (fun _ => by omega)) (congrArg eRule.val (getD_take'' xs m i.toNat _ (by omega)))) ?_
    refine cons (alloc z76 (fun b1 => ?_))
    refine asn rfl (cons (stv ty76 (Lens.id _) (.t rfl) (.t rfl) ?_))
    refine nP (sg (mv rfl (co (Ev.ldv ty76 (.t rfl) (Lens.id _)) ?_)))
    refine mv rfl (cons (callbv (.t rfl) hen (.cons (.t rfl) (.cons (.t rfl) .nil)) (fun w I => hk (xs.getD i.toNat eRule.zero) i w (by have := hD i.toNat (by omega); rwa [show ((i.toNat : Nat) : Int) = i by omega] at this) I.keeps) ?_))
    refine asn rfl (nP (sg (mv rfl (co (Ev.neq_i (.t rfl) (.c (v := I 0) rfl)) ?_))))
    refine nP ?_
    first | refine condD rfl (fun h1 => ?_) (fun h1 => ?_) | refine cond rfl (fun h1 => ?_) (fun h1 => ?_)
    · try simp only [nb] at h1
      have ei : ((i.toNat : Nat) : Int) = i := by omega
      have hst := faultsUp_bad (e := (fun j0 : Nat => g (xs.getD j0 eRule.zero) j0)) (d := d) hi.1 (by (try dsimp only); rw [ei]; exact h1)
      (try dsimp only at hst)
      rw [ei] at hst
      refine draw [] zk ?_
      refine tk 0 rfl (Ev.move (.t rfl)) ?_
      refine tk 1 rfl (Ev.move (.t rfl)) ?_
      refine tk 2 rfl (Ev.nilCheck (.t rfl)) ?_
      refine tk 3 rfl (fA 0 (.t rfl)) ?_
      refine tk 5 rfl (Ev.move (.t rfl)) ?_
      refine tk 6 rfl (Ev.move (.t rfl)) ?_
      refine tk 7 rfl (Ev.nilCheck (.t rfl)) ?_
      refine tk 8 rfl (fA 1 (.t rfl)) ?_
      refine tk 10 rfl (Ev.move (.t rfl)) ?_
      refine all [4, 9] zk (by decide) (.cons rfl ?_ (.cons rfl ?_ .nil))
      · refine (opv (Ev.ldv ty31 (.t rfl) SConfFaults.l_l) ?_)
        refine hdn (al1 9 rfl ((opv (Ev.ldv ty3 (.t rfl) SConfFaults.l_at_) ?_)))
        refine hdn (tk 11 rfl (Ev.add_i (.t rfl) (.t rfl) (fun _ => by simp; omega)) ?_)
        refine tk 12 rfl (Ev.buildS (fs := _) (places := [(0, 1), (1, 1)]) z37 rfl Tryz.underlying37 zk (.cons (.t rfl) (.cons (.t rfl) .nil)) (Fills.cons SFault.l_code rfl (Fills.cons SFault.l_at_ rfl Fills.nil))) ?_
        refine al1 13 rfl ((buildSlice (E := eFault) Tryz.underlying31 ty37 z37 (.cons (.t rfl) .nil) rfl rfl (fun v2 => ?_)))
        refine hdn (al1 14 rfl ((app (E := eFault) Tryz.underlying31 ty37 zb37 zs37 (.t rfl) (.t rfl) (fun v3 => ?_) (hby := ⟨by (show _ ≤ 9223372036854775807); have := faultsUp_len (fun j0 : Nat => g (xs.getD j0 eRule.zero) j0) d i.toNat; simp only [List.length_append, List.length_cons, List.length_nil]; omega, by have := faultsUp_len (fun j0 : Nat => g (xs.getD j0 eRule.zero) j0) d i.toNat; simp only [List.length_append, List.length_cons, List.length_nil]; omega⟩))))
        refine hdn (tk 15 rfl (Ev.nilCheck (.t rfl)) ?_)
        refine tk 16 rfl (fA 0 (.t rfl)) ?_
        refine al1 17 rfl ((stv ty31 SConfFaults.l_l (.t rfl) (.t rfl) ?_))
        refine hdn (ovr (bN (pN (region (co (Ev.add_i (.t rfl) (.c (v := I 1) rfl) (fun _ => zo)) ?_)))))
        refine mv rfl (nP (nx (X := Int × OV) (i + 1, _) ?_ ?_ (hL := (by rw [hst]; (try rw [← List.append_assoc]); repeat first | exact sR | exact sN | apply sC | apply sS | apply sA))))
        · try dsimp only
          omega
        · try dsimp only
          omega
      · refine (opv (Ev.ldv ty3 (.t rfl) SConfFaults.l_at_) ?_)
        refine hdn (tk 11 rfl (Ev.add_i (.t rfl) (.t rfl) (fun _ => by simp; omega)) ?_)
        refine tk 12 rfl (Ev.buildS (fs := _) (places := [(0, 1), (1, 1)]) z37 rfl Tryz.underlying37 zk (.cons (.t rfl) (.cons (.t rfl) .nil)) (Fills.cons SFault.l_code rfl (Fills.cons SFault.l_at_ rfl Fills.nil))) ?_
        refine all [4, 13] zk (by decide) (.cons rfl ?_ (.cons rfl ?_ .nil))
        · refine (opv (Ev.ldv ty31 (.t rfl) SConfFaults.l_l) ?_)
          refine hdn (al1 13 rfl ((buildSlice (E := eFault) Tryz.underlying31 ty37 z37 (.cons (.t rfl) .nil) rfl rfl (fun v4 => ?_))))
          refine hdn (al1 14 rfl ((app (E := eFault) Tryz.underlying31 ty37 zb37 zs37 (.t rfl) (.t rfl) (fun v5 => ?_) (hby := ⟨by (show _ ≤ 9223372036854775807); have := faultsUp_len (fun j0 : Nat => g (xs.getD j0 eRule.zero) j0) d i.toNat; simp only [List.length_append, List.length_cons, List.length_nil]; omega, by have := faultsUp_len (fun j0 : Nat => g (xs.getD j0 eRule.zero) j0) d i.toNat; simp only [List.length_append, List.length_cons, List.length_nil]; omega⟩))))
          refine hdn (tk 15 rfl (Ev.nilCheck (.t rfl)) ?_)
          refine tk 16 rfl (fA 0 (.t rfl)) ?_
          refine al1 17 rfl ((stv ty31 SConfFaults.l_l (.t rfl) (.t rfl) ?_))
          refine hdn (ovr (bN (pN (region (co (Ev.add_i (.t rfl) (.c (v := I 1) rfl) (fun _ => zo)) ?_)))))
          refine mv rfl (nP (nx (X := Int × OV) (i + 1, _) ?_ ?_ (hL := (by rw [hst]; (try rw [← List.append_assoc]); repeat first | exact sR | exact sN | apply sC | apply sS | apply sA))))
          · try dsimp only
            omega
          · try dsimp only
            omega
        · refine (buildSlice (E := eFault) Tryz.underlying31 ty37 z37 (.cons (.t rfl) .nil) rfl rfl (fun v6 => ?_))
          refine hdn (al1 4 rfl ((opv (Ev.ldv ty31 (.t rfl) SConfFaults.l_l) ?_)))
          refine hdn (al1 14 rfl ((app (E := eFault) Tryz.underlying31 ty37 zb37 zs37 (.t rfl) (.t rfl) (fun v7 => ?_) (hby := ⟨by (show _ ≤ 9223372036854775807); have := faultsUp_len (fun j0 : Nat => g (xs.getD j0 eRule.zero) j0) d i.toNat; simp only [List.length_append, List.length_cons, List.length_nil]; omega, by have := faultsUp_len (fun j0 : Nat => g (xs.getD j0 eRule.zero) j0) d i.toNat; simp only [List.length_append, List.length_cons, List.length_nil]; omega⟩))))
          refine hdn (tk 15 rfl (Ev.nilCheck (.t rfl)) ?_)
          refine tk 16 rfl (fA 0 (.t rfl)) ?_
          refine al1 17 rfl ((stv ty31 SConfFaults.l_l (.t rfl) (.t rfl) ?_))
          refine hdn (ovr (bN (pN (region (co (Ev.add_i (.t rfl) (.c (v := I 1) rfl) (fun _ => zo)) ?_)))))
          refine mv rfl (nP (nx (X := Int × OV) (i + 1, _) ?_ ?_ (hL := (by rw [hst]; (try rw [← List.append_assoc]); repeat first | exact sR | exact sN | apply sC | apply sS | apply sA))))
          · try dsimp only
            omega
          · try dsimp only
            omega
    · try simp only [nb] at h1
      have ei : ((i.toNat : Nat) : Int) = i := by omega
      have hst := faultsUp_ok (e := (fun j0 : Nat => g (xs.getD j0 eRule.zero) j0)) (d := d) hi.1 (by (try dsimp only); rw [ei]; exact h1)
      refine skip (bN (pN (region (co (Ev.add_i (.t rfl) (.c (v := I 1) rfl) (fun _ => zo)) ?_))))
      refine mv rfl (nP (nx (X := Int × OV) (i + 1, _) ?_ ?_ (hL := (by rw [hst]; (try rw [← List.append_assoc]); repeat first | exact sR | exact sN | apply sC | apply sS | apply sA))))
      · try dsimp only
        omega
      · try dsimp only
        omega
  · try simp only [nb] at h0
    refine exit (pX (pX (bX (pN (cut (X := OV) (fun x : OV => True) (fun x : OV => [(0, true, .pointer (some ⟨b, 0, none⟩)), (1, true, u)]) (fun x : OV => [Var b eConfFaults ⟨x, d⟩ 88, OwnS x.v eFault (fs ++ listG (fun j0 : Nat => g (xs.getD j0 eRule.zero) j0) d xs.length most) 37]) ?_ (fun x hx => ?_))))))
    · refine sg ?_
      have him : i.toNat = m := by omega
      rw [him]
      refine mv rfl (co (Ev.len Tryz.underlying24 (.t rfl) (fun w I => hxs w I.keeps)) ?_)
      refine mv rfl (co (Ev.gtr_i (.t rfl) (.t rfl)) ?_)
      refine nP ?_
      first | refine condD rfl (fun h2 => ?_) (fun h2 => ?_) | refine cond rfl (fun h2 => ?_) (fun h2 => ?_)
      · try simp only [nb] at h2
        refine draw [] zk ?_
        refine tk 0 rfl (Ev.move (.t rfl)) ?_
        refine tk 1 rfl (Ev.move (.t rfl)) ?_
        refine tk 2 rfl (Ev.nilCheck (.t rfl)) ?_
        refine tk 3 rfl (fA 0 (.t rfl)) ?_
        refine tk 5 rfl (Ev.move (.t rfl)) ?_
        refine tk 6 rfl (Ev.nilCheck (.t rfl)) ?_
        refine tk 7 rfl (fA 1 (.t rfl)) ?_
        refine tk 9 rfl (Ev.move (.t rfl)) ?_
        refine all [4, 8] zk (by decide) (.cons rfl ?_ (.cons rfl ?_ .nil))
        · refine (opv (Ev.ldv ty31 (.t rfl) SConfFaults.l_l) ?_)
          refine hdn (al1 8 rfl ((opv (Ev.ldv ty3 (.t rfl) SConfFaults.l_at_) ?_)))
          refine hdn (tk 10 rfl (Ev.add_i (.t rfl) (.t rfl) (fun _ => by simp; omega)) ?_)
          refine tk 11 rfl (Ev.buildS (fs := _) (places := [(0, 1), (1, 1)]) z37 rfl Tryz.underlying37 zk (.cons (.c (v := I 4) rfl) (.cons (.t rfl) .nil)) (Fills.cons SFault.l_code rfl (Fills.cons SFault.l_at_ rfl Fills.nil))) ?_
          refine al1 12 rfl ((buildSlice (E := eFault) Tryz.underlying31 ty37 z37 (.cons (.t rfl) .nil) rfl rfl (fun v8 => ?_)))
          refine hdn (al1 13 rfl ((app (E := eFault) Tryz.underlying31 ty37 zb37 zs37 (.t rfl) (.t rfl) (fun v9 => ?_) (hby := ⟨by (show _ ≤ 9223372036854775807); have := faultsUp_len (fun j0 : Nat => g (xs.getD j0 eRule.zero) j0) d m; simp only [List.length_append, List.length_cons, List.length_nil]; omega, by have := faultsUp_len (fun j0 : Nat => g (xs.getD j0 eRule.zero) j0) d m; simp only [List.length_append, List.length_cons, List.length_nil]; omega⟩))))
          refine hdn (tk 14 rfl (Ev.nilCheck (.t rfl)) ?_)
          refine tk 15 rfl (fA 0 (.t rfl)) ?_
          refine al1 16 rfl ((stv ty31 SConfFaults.l_l (.t rfl) (.t rfl) ?_))
          refine hdn (ovr (pN (mt (X := OV) (_) trivial (hL := (by unfold listG; rw [← hm2]; (first | rw [if_pos (by omega), ← List.append_assoc] | rw [if_neg (by omega), List.append_nil]); repeat first | exact sR | exact sN | apply sC | apply sS | apply sA)))))
        · refine (opv (Ev.ldv ty3 (.t rfl) SConfFaults.l_at_) ?_)
          refine hdn (tk 10 rfl (Ev.add_i (.t rfl) (.t rfl) (fun _ => by simp; omega)) ?_)
          refine tk 11 rfl (Ev.buildS (fs := _) (places := [(0, 1), (1, 1)]) z37 rfl Tryz.underlying37 zk (.cons (.c (v := I 4) rfl) (.cons (.t rfl) .nil)) (Fills.cons SFault.l_code rfl (Fills.cons SFault.l_at_ rfl Fills.nil))) ?_
          refine all [4, 12] zk (by decide) (.cons rfl ?_ (.cons rfl ?_ .nil))
          · refine (opv (Ev.ldv ty31 (.t rfl) SConfFaults.l_l) ?_)
            refine hdn (al1 12 rfl ((buildSlice (E := eFault) Tryz.underlying31 ty37 z37 (.cons (.t rfl) .nil) rfl rfl (fun v10 => ?_))))
            refine hdn (al1 13 rfl ((app (E := eFault) Tryz.underlying31 ty37 zb37 zs37 (.t rfl) (.t rfl) (fun v11 => ?_) (hby := ⟨by (show _ ≤ 9223372036854775807); have := faultsUp_len (fun j0 : Nat => g (xs.getD j0 eRule.zero) j0) d m; simp only [List.length_append, List.length_cons, List.length_nil]; omega, by have := faultsUp_len (fun j0 : Nat => g (xs.getD j0 eRule.zero) j0) d m; simp only [List.length_append, List.length_cons, List.length_nil]; omega⟩))))
            refine hdn (tk 14 rfl (Ev.nilCheck (.t rfl)) ?_)
            refine tk 15 rfl (fA 0 (.t rfl)) ?_
            refine al1 16 rfl ((stv ty31 SConfFaults.l_l (.t rfl) (.t rfl) ?_))
            refine hdn (ovr (pN (mt (X := OV) (_) trivial (hL := (by unfold listG; rw [← hm2]; (first | rw [if_pos (by omega), ← List.append_assoc] | rw [if_neg (by omega), List.append_nil]); repeat first | exact sR | exact sN | apply sC | apply sS | apply sA)))))
          · refine (buildSlice (E := eFault) Tryz.underlying31 ty37 z37 (.cons (.t rfl) .nil) rfl rfl (fun v12 => ?_))
            refine hdn (al1 4 rfl ((opv (Ev.ldv ty31 (.t rfl) SConfFaults.l_l) ?_)))
            refine hdn (al1 13 rfl ((app (E := eFault) Tryz.underlying31 ty37 zb37 zs37 (.t rfl) (.t rfl) (fun v13 => ?_) (hby := ⟨by (show _ ≤ 9223372036854775807); have := faultsUp_len (fun j0 : Nat => g (xs.getD j0 eRule.zero) j0) d m; simp only [List.length_append, List.length_cons, List.length_nil]; omega, by have := faultsUp_len (fun j0 : Nat => g (xs.getD j0 eRule.zero) j0) d m; simp only [List.length_append, List.length_cons, List.length_nil]; omega⟩))))
            refine hdn (tk 14 rfl (Ev.nilCheck (.t rfl)) ?_)
            refine tk 15 rfl (fA 0 (.t rfl)) ?_
            refine al1 16 rfl ((stv ty31 SConfFaults.l_l (.t rfl) (.t rfl) ?_))
            refine hdn (ovr (pN (mt (X := OV) (_) trivial (hL := (by unfold listG; rw [← hm2]; (first | rw [if_pos (by omega), ← List.append_assoc] | rw [if_neg (by omega), List.append_nil]); repeat first | exact sR | exact sN | apply sC | apply sS | apply sA)))))
      · try simp only [nb] at h2
        refine skip (pN (mt (X := OV) (_) trivial (hL := (by unfold listG; rw [← hm2]; (first | rw [if_pos (by omega), ← List.append_assoc] | rw [if_neg (by omega), List.append_nil]); repeat first | exact sR | exact sN | apply sC | apply sS | apply sA))))
    obtain ⟨q2, rfl⟩ : ∃ y, y = x := ⟨x, rfl⟩
    show Sat _ _ [(0, true, .pointer (some ⟨b, 0, none⟩)), (1, true, u)] [Var b eConfFaults ⟨q2, d⟩ 88, OwnS q2.v eFault (fs ++ listG (fun j0 : Nat => g (xs.getD j0 eRule.zero) j0) d xs.length most) 37]
    refine region (mv rfl (co (Ev.nilCheck (.t rfl)) ?_))
    refine co (fA 1 (.t rfl)) ?_
    refine co (Ev.ldv ty3 (.t rfl) SConfFaults.l_at_) ?_
    refine mv rfl (co (Ev.len Tryz.underlying24 (.t rfl) (fun w I => hxs w I.keeps)) ?_)
    refine co (Ev.add_i (.t rfl) (.t rfl) (fun _ => by simp; omega)) ?_
    refine co (Ev.nilCheck (.t rfl)) ?_
    refine co (fA 1 (.t rfl)) ?_
    refine cons (stv ty3 SConfFaults.l_at_ (.t rfl) (.t rfl) ?_)
    refine nil (done' rfl .nil (fun w I => ?_))
    exact retR (r' := fun o2 => FR b o2 (fs ++ listG (fun j0 : Nat => g (xs.getD j0 eRule.zero) j0) d xs.length most) (d + xs.length)) _ trivial rfl (List.mem_singleton_self _) w (WInv.sepIn (I.sub zs))
theorem list_57 (f : Nat) (fst cap : List Value) (g : SMeterConf → Int → Int) (D : SMeterConf → Int → Prop) (b : Nat) (o : OV) (fs : List SFault) (d : Int) (u : Value) (xs : List SMeterConf) (most : Nat) (w : World) (hen : Gx.Enters Tryz.prog f) (h : At (FR b o fs d) w) (hxs : ∀ w1, Keeps (FR b o fs d).foot w w1 → IsSl eMeterConf w1 u xs) (hk : FnB2 Tryz.prog f fst cap (FR b o fs d).foot w eMeterConf iE iE D g) (hD : ∀ i : Nat, i < xs.length → D (xs.getD i eMeterConf.zero) i) (hd : 0 ≤ d ∧ d + xs.length ≤ 4611686018427387904) (hf : fs.length + most ≤ 100000) : Calls Tryz.prog 43 #[.pointer (some ⟨b, 0, none⟩), u, I most, (bnd f fst cap).v] w (RetR w (FR b o fs d) (fun _ : OV => True) (fun _ => .tuple #[]) (fun o2 => FR b o2 (fs ++ listG (fun j0 : Nat => g (xs.getD j0 eMeterConf.zero) j0) d xs.length most) (d + xs.length))) := by
  obtain ⟨m, hm⟩ : ∃ m : Nat, (min (xs.length : Int) (most : Int)) = (m : Int) := ⟨min xs.length most, by omega⟩
  have hm2 : m = min xs.length most := by omega
  have hle := (hxs w (Keeps.refl _ _)).le
  have htl : (xs.take m).length = m := by simp; omega
  refine enter (FR b o fs d).foot 76 [FR b o fs d] Tryz.func43 rfl rfl (Nat.le_of_ble_eq_true rfl) (start_at h) ?_
  refine sepOut Rem.head ?_
  refine seq (sg (mv rfl (mv rfl (co (Ev.len Tryz.underlying25 (.t rfl) (fun w I => hxs w I.keeps)) ?_))))
  refine mv rfl (co (Ev.to (v' := I ((m : Nat) : Int)) (Ev.min_i (.t rfl) (.t rfl)) (by rw [hm])) ?_)
  refine co (Ev.sliceH Tryz.underlying25 ty57 (.t rfl) (.t rfl) (fun w I => hxs w I.keeps) (fun _ => zo)) ?_
  refine co (Ev.len Tryz.underlying25 (.t rfl) (fun w I => by have := (hxs w I.keeps).sub (l := 0) (k := m) (by omega) (by omega); simpa using this)) ?_
  refine co (Ev.move (.c (v := I 0) rfl)) ?_
  refine nP (block (lp (X := Int × OV) (fun x : Int × OV => (0 ≤ x.1 ∧ x.1 ≤ m)) (fun x : Int × OV => [(0, true, .pointer (some ⟨b, 0, none⟩)), (1, true, u), (2, true, I most), (3, true, (bnd f fst cap).v), (16, true, subS eMeterConf.size u 0 m), (17, true, I (xs.take m).length), (18, true, I x.1)]) (fun x : Int × OV => [Var b eConfFaults ⟨x.2, d⟩ 88, OwnS x.2.v eFault (fs ++ faultsUp (fun j0 : Nat => g (xs.getD j0 eMeterConf.zero) j0) d x.1.toNat) 37]) (fun x : Int × OV => ((m : Int) - x.1).toNat) (0, o) ?_ (fun x hx => ?_) (hL := (by simp only [show (0 : Int).toNat = 0 from rfl, faultsUp, List.append_nil]; repeat first | exact sR | exact sN | apply sC | apply sS | apply sA))))
  · omega
  obtain ⟨i, q⟩ := x
  have hi : 0 ≤ i ∧ i ≤ m := hx
  clear hx
  show Sat _ _ [(0, true, .pointer (some ⟨b, 0, none⟩)), (1, true, u), (2, true, I most), (3, true, (bnd f fst cap).v), (16, true, subS eMeterConf.size u 0 m), (17, true, I (xs.take m).length), (18, true, I i)] [Var b eConfFaults ⟨q, d⟩ 88, OwnS q.v eFault (fs ++ faultsUp (fun j0 : Nat => g (xs.getD j0 eMeterConf.zero) j0) d i.toNat) 37]
  refine sg (co (Ev.lss_i (.t rfl) (.t rfl)) ?_)
  refine nP (seq ?_)
  first | refine condD rfl (fun h0 => ?_) (fun h0 => ?_) | refine cond rfl (fun h0 => ?_) (fun h0 => ?_)
  · try simp only [nb] at h0
    refine skip (pN (seq (block (sg (mv rfl (co (Ev.indexAddr Tryz.underlying25 ty57 (.t rfl) (.t rfl) (fun w I => by have := (hxs w I.keeps).sub (l := 0) (k := m) (by omega) (by omega); simpa using this) (fun _ => by omega)) ?_))))))
    refine co (Ev.to (v' := eMeterConf.val (xs.getD i.toNat eMeterConf.zero)) (Ev.loadS0 ty57 (.t rfl) (fun w I => by have := (hxs w I.keeps).sub (l := 0) (k := m) (by omega) (by omega); simpa using this) (fun _ => by omega)) (congrArg eMeterConf.val (getD_take'' xs m i.toNat _ (by omega)))) ?_
    refine cons (alloc z57 (fun b1 => ?_))
    refine asn rfl (cons (stv ty57 (Lens.id _) (.t rfl) (.t rfl) ?_))
    refine nP (sg (mv rfl (co (Ev.ldv ty57 (.t rfl) (Lens.id _)) ?_)))
    refine mv rfl (cons (callbv (.t rfl) hen (.cons (.t rfl) (.cons (.t rfl) .nil)) (fun w I => hk (xs.getD i.toNat eMeterConf.zero) i w (by have := hD i.toNat (by omega); rwa [show ((i.toNat : Nat) : Int) = i by omega] at this) I.keeps) ?_))
    refine asn rfl (nP (sg (mv rfl (co (Ev.neq_i (.t rfl) (.c (v := I 0) rfl)) ?_))))
    refine nP ?_
    first | refine condD rfl (fun h1 => ?_) (fun h1 => ?_) | refine cond rfl (fun h1 => ?_) (fun h1 => ?_)
    · try simp only [nb] at h1
      have ei : ((i.toNat : Nat) : Int) = i := by omega
      have hst := faultsUp_bad (e := (fun j0 : Nat => g (xs.getD j0 eMeterConf.zero) j0)) (d := d) hi.1 (by (try dsimp only); rw [ei]; exact h1)
      (try dsimp only at hst)
      rw [ei] at hst
      refine draw [] zk ?_
      refine tk 0 rfl (Ev.move (.t rfl)) ?_
      refine tk 1 rfl (Ev.move (.t rfl)) ?_
      refine tk 2 rfl (Ev.nilCheck (.t rfl)) ?_
      refine tk 3 rfl (fA 0 (.t rfl)) ?_
      refine tk 5 rfl (Ev.move (.t rfl)) ?_
      refine tk 6 rfl (Ev.move (.t rfl)) ?_
      refine tk 7 rfl (Ev.nilCheck (.t rfl)) ?_
      refine tk 8 rfl (fA 1 (.t rfl)) ?_
      refine tk 10 rfl (Ev.move (.t rfl)) ?_
      refine all [4, 9] zk (by decide) (.cons rfl ?_ (.cons rfl ?_ .nil))
      · refine (opv (Ev.ldv ty31 (.t rfl) SConfFaults.l_l) ?_)
        refine hdn (al1 9 rfl ((opv (Ev.ldv ty3 (.t rfl) SConfFaults.l_at_) ?_)))
        refine hdn (tk 11 rfl (Ev.add_i (.t rfl) (.t rfl) (fun _ => by simp; omega)) ?_)
        refine tk 12 rfl (Ev.buildS (fs := _) (places := [(0, 1), (1, 1)]) z37 rfl Tryz.underlying37 zk (.cons (.t rfl) (.cons (.t rfl) .nil)) (Fills.cons SFault.l_code rfl (Fills.cons SFault.l_at_ rfl Fills.nil))) ?_
        refine al1 13 rfl ((buildSlice (E := eFault) Tryz.underlying31 ty37 z37 (.cons (.t rfl) .nil) rfl rfl (fun v2 => ?_)))
        refine hdn (al1 14 rfl ((app (E := eFault) Tryz.underlying31 ty37 zb37 zs37 (.t rfl) (.t rfl) (fun v3 => ?_) (hby := ⟨by (show _ ≤ 9223372036854775807); have := faultsUp_len (fun j0 : Nat => g (xs.getD j0 eMeterConf.zero) j0) d i.toNat; simp only [List.length_append, List.length_cons, List.length_nil]; omega, by have := faultsUp_len (fun j0 : Nat => g (xs.getD j0 eMeterConf.zero) j0) d i.toNat; simp only [List.length_append, List.length_cons, List.length_nil]; omega⟩))))
        refine hdn (tk 15 rfl (Ev.nilCheck (.t rfl)) ?_)
        refine tk 16 rfl (fA 0 (.t rfl)) ?_
        refine al1 17 rfl ((stv ty31 SConfFaults.l_l (.t rfl) (.t rfl) ?_))
        refine hdn (ovr (bN (pN (region (co (Ev.add_i (.t rfl) (.c (v := I 1) rfl) (fun _ => zo)) ?_)))))
        refine mv rfl (nP (nx (X := Int × OV) (i + 1, _) ?_ ?_ (hL := (by rw [hst]; (try rw [← List.append_assoc]); repeat first | exact sR | exact sN | apply sC | apply sS | apply sA))))
        · try dsimp only
          omega
        · try dsimp only
          omega
      · refine (opv (Ev.ldv ty3 (.t rfl) SConfFaults.l_at_) ?_)
        refine hdn (tk 11 rfl (Ev.add_i (.t rfl) (.t rfl) (fun _ => by simp; omega)) ?_)
        refine tk 12 rfl (Ev.buildS (fs := _) (places := [(0, 1), (1, 1)]) z37 rfl Tryz.underlying37 zk (.cons (.t rfl) (.cons (.t rfl) .nil)) (Fills.cons SFault.l_code rfl (Fills.cons SFault.l_at_ rfl Fills.nil))) ?_
        refine all [4, 13] zk (by decide) (.cons rfl ?_ (.cons rfl ?_ .nil))
        · refine (opv (Ev.ldv ty31 (.t rfl) SConfFaults.l_l) ?_)
          refine hdn (al1 13 rfl ((buildSlice (E := eFault) Tryz.underlying31 ty37 z37 (.cons (.t rfl) .nil) rfl rfl (fun v4 => ?_))))
          refine hdn (al1 14 rfl ((app (E := eFault) Tryz.underlying31 ty37 zb37 zs37 (.t rfl) (.t rfl) (fun v5 => ?_) (hby := ⟨by (show _ ≤ 9223372036854775807); have := faultsUp_len (fun j0 : Nat => g (xs.getD j0 eMeterConf.zero) j0) d i.toNat; simp only [List.length_append, List.length_cons, List.length_nil]; omega, by have := faultsUp_len (fun j0 : Nat => g (xs.getD j0 eMeterConf.zero) j0) d i.toNat; simp only [List.length_append, List.length_cons, List.length_nil]; omega⟩))))
          refine hdn (tk 15 rfl (Ev.nilCheck (.t rfl)) ?_)
          refine tk 16 rfl (fA 0 (.t rfl)) ?_
          refine al1 17 rfl ((stv ty31 SConfFaults.l_l (.t rfl) (.t rfl) ?_))
          refine hdn (ovr (bN (pN (region (co (Ev.add_i (.t rfl) (.c (v := I 1) rfl) (fun _ => zo)) ?_)))))
          refine mv rfl (nP (nx (X := Int × OV) (i + 1, _) ?_ ?_ (hL := (by rw [hst]; (try rw [← List.append_assoc]); repeat first | exact sR | exact sN | apply sC | apply sS | apply sA))))
          · try dsimp only
            omega
          · try dsimp only
            omega
        · refine (buildSlice (E := eFault) Tryz.underlying31 ty37 z37 (.cons (.t rfl) .nil) rfl rfl (fun v6 => ?_))
          refine hdn (al1 4 rfl ((opv (Ev.ldv ty31 (.t rfl) SConfFaults.l_l) ?_)))
          refine hdn (al1 14 rfl ((app (E := eFault) Tryz.underlying31 ty37 zb37 zs37 (.t rfl) (.t rfl) (fun v7 => ?_) (hby := ⟨by (show _ ≤ 9223372036854775807); have := faultsUp_len (fun j0 : Nat => g (xs.getD j0 eMeterConf.zero) j0) d i.toNat; simp only [List.length_append, List.length_cons, List.length_nil]; omega, by have := faultsUp_len (fun j0 : Nat => g (xs.getD j0 eMeterConf.zero) j0) d i.toNat; simp only [List.length_append, List.length_cons, List.length_nil]; omega⟩))))
          refine hdn (tk 15 rfl (Ev.nilCheck (.t rfl)) ?_)
          refine tk 16 rfl (fA 0 (.t rfl)) ?_
          refine al1 17 rfl ((stv ty31 SConfFaults.l_l (.t rfl) (.t rfl) ?_))
          refine hdn (ovr (bN (pN (region (co (Ev.add_i (.t rfl) (.c (v := I 1) rfl) (fun _ => zo)) ?_)))))
          refine mv rfl (nP (nx (X := Int × OV) (i + 1, _) ?_ ?_ (hL := (by rw [hst]; (try rw [← List.append_assoc]); repeat first | exact sR | exact sN | apply sC | apply sS | apply sA))))
          · try dsimp only
            omega
          · try dsimp only
            omega
    · try simp only [nb] at h1
      have ei : ((i.toNat : Nat) : Int) = i := by omega
      have hst := faultsUp_ok (e := (fun j0 : Nat => g (xs.getD j0 eMeterConf.zero) j0)) (d := d) hi.1 (by (try dsimp only); rw [ei]; exact h1)
      refine skip (bN (pN (region (co (Ev.add_i (.t rfl) (.c (v := I 1) rfl) (fun _ => zo)) ?_))))
      refine mv rfl (nP (nx (X := Int × OV) (i + 1, _) ?_ ?_ (hL := (by rw [hst]; (try rw [← List.append_assoc]); repeat first | exact sR | exact sN | apply sC | apply sS | apply sA))))
      · try dsimp only
        omega
      · try dsimp only
        omega
  · try simp only [nb] at h0
    refine exit (pX (pX (bX (pN (cut (X := OV) (fun x : OV => True) (fun x : OV => [(0, true, .pointer (some ⟨b, 0, none⟩)), (1, true, u)]) (fun x : OV => [Var b eConfFaults ⟨x, d⟩ 88, OwnS x.v eFault (fs ++ listG (fun j0 : Nat => g (xs.getD j0 eMeterConf.zero) j0) d xs.length most) 37]) ?_ (fun x hx => ?_))))))
    · refine sg ?_
      have him : i.toNat = m := by omega
      rw [him]
      refine mv rfl (co (Ev.len Tryz.underlying25 (.t rfl) (fun w I => hxs w I.keeps)) ?_)
      refine mv rfl (co (Ev.gtr_i (.t rfl) (.t rfl)) ?_)
      refine nP ?_
      first | refine condD rfl (fun h2 => ?_) (fun h2 => ?_) | refine cond rfl (fun h2 => ?_) (fun h2 => ?_)
      · try simp only [nb] at h2
        refine draw [] zk ?_
        refine tk 0 rfl (Ev.move (.t rfl)) ?_
        refine tk 1 rfl (Ev.move (.t rfl)) ?_
        refine tk 2 rfl (Ev.nilCheck (.t rfl)) ?_
        refine tk 3 rfl (fA 0 (.t rfl)) ?_
        refine tk 5 rfl (Ev.move (.t rfl)) ?_
        refine tk 6 rfl (Ev.nilCheck (.t rfl)) ?_
        refine tk 7 rfl (fA 1 (.t rfl)) ?_
        refine tk 9 rfl (Ev.move (.t rfl)) ?_
        refine all [4, 8] zk (by decide) (.cons rfl ?_ (.cons rfl ?_ .nil))
        · refine (opv (Ev.ldv ty31 (.t rfl) SConfFaults.l_l) ?_)
          refine hdn (al1 8 rfl ((opv (Ev.ldv ty3 (.t rfl) SConfFaults.l_at_) ?_)))
          refine hdn (tk 10 rfl (Ev.add_i (.t rfl) (.t rfl) (fun _ => by simp; omega)) ?_)
          refine tk 11 rfl (Ev.buildS (fs := _) (places := [(0, 1), (1, 1)]) z37 rfl Tryz.underlying37 zk (.cons (.c (v := I 4) rfl) (.cons (.t rfl) .nil)) (Fills.cons SFault.l_code rfl (Fills.cons SFault.l_at_ rfl Fills.nil))) ?_
          refine al1 12 rfl ((buildSlice (E := eFault) Tryz.underlying31 ty37 z37 (.cons (.t rfl) .nil) rfl rfl (fun v8 => ?_)))
          refine hdn (al1 13 rfl ((app (E := eFault) Tryz.underlying31 ty37 zb37 zs37 (.t rfl) (.t rfl) (fun v9 => ?_) (hby := ⟨by (show _ ≤ 9223372036854775807); have := faultsUp_len (fun j0 : Nat => g (xs.getD j0 eMeterConf.zero) j0) d m; simp only [List.length_append, List.length_cons, List.length_nil]; omega, by have := faultsUp_len (fun j0 : Nat => g (xs.getD j0 eMeterConf.zero) j0) d m; simp only [List.length_append, List.length_cons, List.length_nil]; omega⟩))))
          refine hdn (tk 14 rfl (Ev.nilCheck (.t rfl)) ?_)
          refine tk 15 rfl (fA 0 (.t rfl)) ?_
          refine al1 16 rfl ((stv ty31 SConfFaults.l_l (.t rfl) (.t rfl) ?_))
          refine hdn (ovr (pN (mt (X := OV) (_) trivial (hL := (by unfold listG; rw [← hm2]; (first | rw [if_pos (by omega), ← List.append_assoc] | rw [if_neg (by omega), List.append_nil]); repeat first | exact sR | exact sN | apply sC | apply sS | apply sA)))))
        · refine (opv (Ev.ldv ty3 (.t rfl) SConfFaults.l_at_) ?_)
          refine hdn (tk 10 rfl (Ev.add_i (.t rfl) (.t rfl) (fun _ => by simp; omega)) ?_)
          refine tk 11 rfl (Ev.buildS (fs := _) (places := [(0, 1), (1, 1)]) z37 rfl Tryz.underlying37 zk (.cons (.c (v := I 4) rfl) (.cons (.t rfl) .nil)) (Fills.cons SFault.l_code rfl (Fills.cons SFault.l_at_ rfl Fills.nil))) ?_
          refine all [4, 12] zk (by decide) (.cons rfl ?_ (.cons rfl ?_ .nil))
          · refine (opv (Ev.ldv ty31 (.t rfl) SConfFaults.l_l) ?_)
            refine hdn (al1 12 rfl ((buildSlice (E := eFault) Tryz.underlying31 ty37 z37 (.cons (.t rfl) .nil) rfl rfl (fun v10 => ?_))))
            refine hdn (al1 13 rfl ((app (E := eFault) Tryz.underlying31 ty37 zb37 zs37 (.t rfl) (.t rfl) (fun v11 => ?_) (hby := ⟨by (show _ ≤ 9223372036854775807); have := faultsUp_len (fun j0 : Nat => g (xs.getD j0 eMeterConf.zero) j0) d m; simp only [List.length_append, List.length_cons, List.length_nil]; omega, by have := faultsUp_len (fun j0 : Nat => g (xs.getD j0 eMeterConf.zero) j0) d m; simp only [List.length_append, List.length_cons, List.length_nil]; omega⟩))))
            refine hdn (tk 14 rfl (Ev.nilCheck (.t rfl)) ?_)
            refine tk 15 rfl (fA 0 (.t rfl)) ?_
            refine al1 16 rfl ((stv ty31 SConfFaults.l_l (.t rfl) (.t rfl) ?_))
            refine hdn (ovr (pN (mt (X := OV) (_) trivial (hL := (by unfold listG; rw [← hm2]; (first | rw [if_pos (by omega), ← List.append_assoc] | rw [if_neg (by omega), List.append_nil]); repeat first | exact sR | exact sN | apply sC | apply sS | apply sA)))))
          · refine (buildSlice (E := eFault) Tryz.underlying31 ty37 z37 (.cons (.t rfl) .nil) rfl rfl (fun v12 => ?_))
            refine hdn (al1 4 rfl ((opv (Ev.ldv ty31 (.t rfl) SConfFaults.l_l) ?_)))
            refine hdn (al1 13 rfl ((app (E := eFault) Tryz.underlying31 ty37 zb37 zs37 (.t rfl) (.t rfl) (fun v13 => ?_) (hby := ⟨by (show _ ≤ 9223372036854775807); have := faultsUp_len (fun j0 : Nat => g (xs.getD j0 eMeterConf.zero) j0) d m; simp only [List.length_append, List.length_cons, List.length_nil]; omega, by have := faultsUp_len (fun j0 : Nat => g (xs.getD j0 eMeterConf.zero) j0) d m; simp only [List.length_append, List.length_cons, List.length_nil]; omega⟩))))
            refine hdn (tk 14 rfl (Ev.nilCheck (.t rfl)) ?_)
            refine tk 15 rfl (fA 0 (.t rfl)) ?_
            refine al1 16 rfl ((stv ty31 SConfFaults.l_l (.t rfl) (.t rfl) ?_))
            refine hdn (ovr (pN (mt (X := OV) (_) trivial (hL := (by unfold listG; rw [← hm2]; (first | rw [if_pos (by omega), ← List.append_assoc] | rw [if_neg (by omega), List.append_nil]); repeat first | exact sR | exact sN | apply sC | apply sS | apply sA)))))
      · try simp only [nb] at h2
        refine skip (pN (mt (X := OV) (_) trivial (hL := (by unfold listG; rw [← hm2]; (first | rw [if_pos (by omega), ← List.append_assoc] | rw [if_neg (by omega), List.append_nil]); repeat first | exact sR | exact sN | apply sC | apply sS | apply sA))))
    obtain ⟨q2, rfl⟩ : ∃ y, y = x := ⟨x, rfl⟩
    show Sat _ _ [(0, true, .pointer (some ⟨b, 0, none⟩)), (1, true, u)] [Var b eConfFaults ⟨q2, d⟩ 88, OwnS q2.v eFault (fs ++ listG (fun j0 : Nat => g (xs.getD j0 eMeterConf.zero) j0) d xs.length most) 37]
    refine region (mv rfl (co (Ev.nilCheck (.t rfl)) ?_))
    refine co (fA 1 (.t rfl)) ?_
    refine co (Ev.ldv ty3 (.t rfl) SConfFaults.l_at_) ?_
    refine mv rfl (co (Ev.len Tryz.underlying25 (.t rfl) (fun w I => hxs w I.keeps)) ?_)
    refine co (Ev.add_i (.t rfl) (.t rfl) (fun _ => by simp; omega)) ?_
    refine co (Ev.nilCheck (.t rfl)) ?_
    refine co (fA 1 (.t rfl)) ?_
    refine cons (stv ty3 SConfFaults.l_at_ (.t rfl) (.t rfl) ?_)
    refine nil (done' rfl .nil (fun w I => ?_))
    exact retR (r' := fun o2 => FR b o2 (fs ++ listG (fun j0 : Nat => g (xs.getD j0 eMeterConf.zero) j0) d xs.length most) (d + xs.length)) _ trivial rfl (List.mem_singleton_self _) w (WInv.sepIn (I.sub zs))
theorem list_59 (f : Nat) (fst cap : List Value) (g : SMirrorConf → Int → Int) (D : SMirrorConf → Int → Prop) (b : Nat) (o : OV) (fs : List SFault) (d : Int) (u : Value) (xs : List SMirrorConf) (most : Nat) (w : World) (hen : Gx.Enters Tryz.prog f) (h : At (FR b o fs d) w) (hxs : ∀ w1, Keeps (FR b o fs d).foot w w1 → IsSl eMirrorConf w1 u xs) (hk : FnB2 Tryz.prog f fst cap (FR b o fs d).foot w eMirrorConf iE iE D g) (hD : ∀ i : Nat, i < xs.length → D (xs.getD i eMirrorConf.zero) i) (hd : 0 ≤ d ∧ d + xs.length ≤ 4611686018427387904) (hf : fs.length + most ≤ 100000) : Calls Tryz.prog 45 #[.pointer (some ⟨b, 0, none⟩), u, I most, (bnd f fst cap).v] w (RetR w (FR b o fs d) (fun _ : OV => True) (fun _ => .tuple #[]) (fun o2 => FR b o2 (fs ++ listG (fun j0 : Nat => g (xs.getD j0 eMirrorConf.zero) j0) d xs.length most) (d + xs.length))) := by
  obtain ⟨m, hm⟩ : ∃ m : Nat, (min (xs.length : Int) (most : Int)) = (m : Int) := ⟨min xs.length most, by omega⟩
  have hm2 : m = min xs.length most := by omega
  have hle := (hxs w (Keeps.refl _ _)).le
  have htl : (xs.take m).length = m := by simp; omega
  refine enter (FR b o fs d).foot 76 [FR b o fs d] Tryz.func45 rfl rfl (Nat.le_of_ble_eq_true rfl) (start_at h) ?_
  refine sepOut Rem.head ?_
  refine seq (sg (mv rfl (mv rfl (co (Ev.len Tryz.underlying26 (.t rfl) (fun w I => hxs w I.keeps)) ?_))))
  refine mv rfl (co (Ev.to (v' := I ((m : Nat) : Int)) (Ev.min_i (.t rfl) (.t rfl)) (by rw [hm])) ?_)
  refine co (Ev.sliceH Tryz.underlying26 ty59 (.t rfl) (.t rfl) (fun w I => hxs w I.keeps) (fun _ => zo)) ?_
  refine co (Ev.len Tryz.underlying26 (.t rfl) (fun w I => by have := (hxs w I.keeps).sub (l := 0) (k := m) (by omega) (by omega); simpa using this)) ?_
  refine co (Ev.move (.c (v := I 0) rfl)) ?_
  refine nP (block (lp (X := Int × OV) (fun x : Int × OV => (0 ≤ x.1 ∧ x.1 ≤ m)) (fun x : Int × OV => [(0, true, .pointer (some ⟨b, 0, none⟩)), (1, true, u), (2, true, I most), (3, true, (bnd f fst cap).v), (16, true, subS eMirrorConf.size u 0 m), (17, true, I (xs.take m).length), (18, true, I x.1)]) (fun x : Int × OV => [Var b eConfFaults ⟨x.2, d⟩ 88, OwnS x.2.v eFault (fs ++ faultsUp (fun j0 : Nat => g (xs.getD j0 eMirrorConf.zero) j0) d x.1.toNat) 37]) (fun x : Int × OV => ((m : Int) - x.1).toNat) (0, o) ?_ (fun x hx => ?_) (hL := (by simp only [show (0 : Int).toNat = 0 from rfl, faultsUp, List.append_nil]; repeat first | exact sR | exact sN | apply sC | apply sS | apply sA))))
  · omega
  obtain ⟨i, q⟩ := x
  have hi : 0 ≤ i ∧ i ≤ m := hx
  clear hx
  show Sat _ _ [(0, true, .pointer (some ⟨b, 0, none⟩)), (1, true, u), (2, true, I most), (3, true, (bnd f fst cap).v), (16, true, subS eMirrorConf.size u 0 m), (17, true, I (xs.take m).length), (18, true, I i)] [Var b eConfFaults ⟨q, d⟩ 88, OwnS q.v eFault (fs ++ faultsUp (fun j0 : Nat => g (xs.getD j0 eMirrorConf.zero) j0) d i.toNat) 37]
  refine sg (co (Ev.lss_i (.t rfl) (.t rfl)) ?_)
  refine nP (seq ?_)
  first | refine condD rfl (fun h0 => ?_) (fun h0 => ?_) | refine cond rfl (fun h0 => ?_) (fun h0 => ?_)
  · try simp only [nb] at h0
    refine skip (pN (seq (block (sg (mv rfl (co (Ev.indexAddr Tryz.underlying26 ty59 (.t rfl) (.t rfl) (fun w I => by have := (hxs w I.keeps).sub (l := 0) (k := m) (by omega) (by omega); simpa using this) (fun _ => by omega)) ?_))))))
    refine co (Ev.to (v' := eMirrorConf.val (xs.getD i.toNat eMirrorConf.zero)) (Ev.loadS0 ty59 (.t rfl) (fun w I => by have := (hxs w I.keeps).sub (l := 0) (k := m) (by omega) (by omega); simpa using this) (fun _ => by omega)) (congrArg eMirrorConf.val (getD_take'' xs m i.toNat _ (by omega)))) ?_
    refine cons (alloc z59 (fun b1 => ?_))
    refine asn rfl (cons (stv ty59 (Lens.id _) (.t rfl) (.t rfl) ?_))
    refine nP (sg (mv rfl (co (Ev.ldv ty59 (.t rfl) (Lens.id _)) ?_)))
    refine mv rfl (cons (callbv (.t rfl) hen (.cons (.t rfl) (.cons (.t rfl) .nil)) (fun w I => hk (xs.getD i.toNat eMirrorConf.zero) i w (by have := hD i.toNat (by omega); rwa [show ((i.toNat : Nat) : Int) = i by omega] at this) I.keeps) ?_))
    refine asn rfl (nP (sg (mv rfl (co (Ev.neq_i (.t rfl) (.c (v := I 0) rfl)) ?_))))
    refine nP ?_
    first | refine condD rfl (fun h1 => ?_) (fun h1 => ?_) | refine cond rfl (fun h1 => ?_) (fun h1 => ?_)
    · try simp only [nb] at h1
      have ei : ((i.toNat : Nat) : Int) = i := by omega
      have hst := faultsUp_bad (e := (fun j0 : Nat => g (xs.getD j0 eMirrorConf.zero) j0)) (d := d) hi.1 (by (try dsimp only); rw [ei]; exact h1)
      (try dsimp only at hst)
      rw [ei] at hst
      refine draw [] zk ?_
      refine tk 0 rfl (Ev.move (.t rfl)) ?_
      refine tk 1 rfl (Ev.move (.t rfl)) ?_
      refine tk 2 rfl (Ev.nilCheck (.t rfl)) ?_
      refine tk 3 rfl (fA 0 (.t rfl)) ?_
      refine tk 5 rfl (Ev.move (.t rfl)) ?_
      refine tk 6 rfl (Ev.move (.t rfl)) ?_
      refine tk 7 rfl (Ev.nilCheck (.t rfl)) ?_
      refine tk 8 rfl (fA 1 (.t rfl)) ?_
      refine tk 10 rfl (Ev.move (.t rfl)) ?_
      refine all [4, 9] zk (by decide) (.cons rfl ?_ (.cons rfl ?_ .nil))
      · refine (opv (Ev.ldv ty31 (.t rfl) SConfFaults.l_l) ?_)
        refine hdn (al1 9 rfl ((opv (Ev.ldv ty3 (.t rfl) SConfFaults.l_at_) ?_)))
        refine hdn (tk 11 rfl (Ev.add_i (.t rfl) (.t rfl) (fun _ => by simp; omega)) ?_)
        refine tk 12 rfl (Ev.buildS (fs := _) (places := [(0, 1), (1, 1)]) z37 rfl Tryz.underlying37 zk (.cons (.t rfl) (.cons (.t rfl) .nil)) (Fills.cons SFault.l_code rfl (Fills.cons SFault.l_at_ rfl Fills.nil))) ?_
        refine al1 13 rfl ((buildSlice (E := eFault) Tryz.underlying31 ty37 z37 (.cons (.t rfl) .nil) rfl rfl (fun v2 => ?_)))
        refine hdn (al1 14 rfl ((app (E := eFault) Tryz.underlying31 ty37 zb37 zs37 (.t rfl) (.t rfl) (fun v3 => ?_) (hby := ⟨by (show _ ≤ 9223372036854775807); have := faultsUp_len (fun j0 : Nat => g (xs.getD j0 eMirrorConf.zero) j0) d i.toNat; simp only [List.length_append, List.length_cons, List.length_nil]; omega, by have := faultsUp_len (fun j0 : Nat => g (xs.getD j0 eMirrorConf.zero) j0) d i.toNat; simp only [List.length_append, List.length_cons, List.length_nil]; omega⟩))))
        refine hdn (tk 15 rfl (Ev.nilCheck (.t rfl)) ?_)
        refine tk 16 rfl (fA 0 (.t rfl)) ?_
        refine al1 17 rfl ((stv ty31 SConfFaults.l_l (.t rfl) (.t rfl) ?_))
        refine hdn (ovr (bN (pN (region (co (Ev.add_i (.t rfl) (.c (v := I 1) rfl) (fun _ => zo)) ?_)))))
        refine mv rfl (nP (nx (X := Int × OV) (i + 1, _) ?_ ?_ (hL := (by rw [hst]; (try rw [← List.append_assoc]); repeat first | exact sR | exact sN | apply sC | apply sS | apply sA))))
        · try dsimp only
          omega
        · try dsimp only
          omega
      · refine (opv (Ev.ldv ty3 (.t rfl) SConfFaults.l_at_) ?_)
        refine hdn (tk 11 rfl (Ev.add_i (.t rfl) (.t rfl) (fun _ => by simp; omega)) ?_)
        refine tk 12 rfl (Ev.buildS (fs := _) (places := [(0, 1), (1, 1)]) z37 rfl Tryz.underlying37 zk (.cons (.t rfl) (.cons (.t rfl) .nil)) (Fills.cons SFault.l_code rfl (Fills.cons SFault.l_at_ rfl Fills.nil))) ?_
        refine all [4, 13] zk (by decide) (.cons rfl ?_ (.cons rfl ?_ .nil))
        · refine (opv (Ev.ldv ty31 (.t rfl) SConfFaults.l_l) ?_)
          refine hdn (al1 13 rfl ((buildSlice (E := eFault) Tryz.underlying31 ty37 z37 (.cons (.t rfl) .nil) rfl rfl (fun v4 => ?_))))
          refine hdn (al1 14 rfl ((app (E := eFault) Tryz.underlying31 ty37 zb37 zs37 (.t rfl) (.t rfl) (fun v5 => ?_) (hby := ⟨by (show _ ≤ 9223372036854775807); have := faultsUp_len (fun j0 : Nat => g (xs.getD j0 eMirrorConf.zero) j0) d i.toNat; simp only [List.length_append, List.length_cons, List.length_nil]; omega, by have := faultsUp_len (fun j0 : Nat => g (xs.getD j0 eMirrorConf.zero) j0) d i.toNat; simp only [List.length_append, List.length_cons, List.length_nil]; omega⟩))))
          refine hdn (tk 15 rfl (Ev.nilCheck (.t rfl)) ?_)
          refine tk 16 rfl (fA 0 (.t rfl)) ?_
          refine al1 17 rfl ((stv ty31 SConfFaults.l_l (.t rfl) (.t rfl) ?_))
          refine hdn (ovr (bN (pN (region (co (Ev.add_i (.t rfl) (.c (v := I 1) rfl) (fun _ => zo)) ?_)))))
          refine mv rfl (nP (nx (X := Int × OV) (i + 1, _) ?_ ?_ (hL := (by rw [hst]; (try rw [← List.append_assoc]); repeat first | exact sR | exact sN | apply sC | apply sS | apply sA))))
          · try dsimp only
            omega
          · try dsimp only
            omega
        · refine (buildSlice (E := eFault) Tryz.underlying31 ty37 z37 (.cons (.t rfl) .nil) rfl rfl (fun v6 => ?_))
          refine hdn (al1 4 rfl ((opv (Ev.ldv ty31 (.t rfl) SConfFaults.l_l) ?_)))
          refine hdn (al1 14 rfl ((app (E := eFault) Tryz.underlying31 ty37 zb37 zs37 (.t rfl) (.t rfl) (fun v7 => ?_) (hby := ⟨by (show _ ≤ 9223372036854775807); have := faultsUp_len (fun j0 : Nat => g (xs.getD j0 eMirrorConf.zero) j0) d i.toNat; simp only [List.length_append, List.length_cons, List.length_nil]; omega, by have := faultsUp_len (fun j0 : Nat => g (xs.getD j0 eMirrorConf.zero) j0) d i.toNat; simp only [List.length_append, List.length_cons, List.length_nil]; omega⟩))))
          refine hdn (tk 15 rfl (Ev.nilCheck (.t rfl)) ?_)
          refine tk 16 rfl (fA 0 (.t rfl)) ?_
          refine al1 17 rfl ((stv ty31 SConfFaults.l_l (.t rfl) (.t rfl) ?_))
          refine hdn (ovr (bN (pN (region (co (Ev.add_i (.t rfl) (.c (v := I 1) rfl) (fun _ => zo)) ?_)))))
          refine mv rfl (nP (nx (X := Int × OV) (i + 1, _) ?_ ?_ (hL := (by rw [hst]; (try rw [← List.append_assoc]); repeat first | exact sR | exact sN | apply sC | apply sS | apply sA))))
          · try dsimp only
            omega
          · try dsimp only
            omega
    · try simp only [nb] at h1
      have ei : ((i.toNat : Nat) : Int) = i := by omega
      have hst := faultsUp_ok (e := (fun j0 : Nat => g (xs.getD j0 eMirrorConf.zero) j0)) (d := d) hi.1 (by (try dsimp only); rw [ei]; exact h1)
      refine skip (bN (pN (region (co (Ev.add_i (.t rfl) (.c (v := I 1) rfl) (fun _ => zo)) ?_))))
      refine mv rfl (nP (nx (X := Int × OV) (i + 1, _) ?_ ?_ (hL := (by rw [hst]; (try rw [← List.append_assoc]); repeat first | exact sR | exact sN | apply sC | apply sS | apply sA))))
      · try dsimp only
        omega
      · try dsimp only
        omega
  · try simp only [nb] at h0
    refine exit (pX (pX (bX (pN (cut (X := OV) (fun x : OV => True) (fun x : OV => [(0, true, .pointer (some ⟨b, 0, none⟩)), (1, true, u)]) (fun x : OV => [Var b eConfFaults ⟨x, d⟩ 88, OwnS x.v eFault (fs ++ listG (fun j0 : Nat => g (xs.getD j0 eMirrorConf.zero) j0) d xs.length most) 37]) ?_ (fun x hx => ?_))))))
    · refine sg ?_
      have him : i.toNat = m := by omega
      rw [him]
      refine mv rfl (co (Ev.len Tryz.underlying26 (.t rfl) (fun w I => hxs w I.keeps)) ?_)
      refine mv rfl (co (Ev.gtr_i (.t rfl) (.t rfl)) ?_)
      refine nP ?_
      first | refine condD rfl (fun h2 => ?_) (fun h2 => ?_) | refine cond rfl (fun h2 => ?_) (fun h2 => ?_)
      · try simp only [nb] at h2
        refine draw [] zk ?_
        refine tk 0 rfl (Ev.move (.t rfl)) ?_
        refine tk 1 rfl (Ev.move (.t rfl)) ?_
        refine tk 2 rfl (Ev.nilCheck (.t rfl)) ?_
        refine tk 3 rfl (fA 0 (.t rfl)) ?_
        refine tk 5 rfl (Ev.move (.t rfl)) ?_
        refine tk 6 rfl (Ev.nilCheck (.t rfl)) ?_
        refine tk 7 rfl (fA 1 (.t rfl)) ?_
        refine tk 9 rfl (Ev.move (.t rfl)) ?_
        refine all [4, 8] zk (by decide) (.cons rfl ?_ (.cons rfl ?_ .nil))
        · refine (opv (Ev.ldv ty31 (.t rfl) SConfFaults.l_l) ?_)
          refine hdn (al1 8 rfl ((opv (Ev.ldv ty3 (.t rfl) SConfFaults.l_at_) ?_)))
          refine hdn (tk 10 rfl (Ev.add_i (.t rfl) (.t rfl) (fun _ => by simp; omega)) ?_)
          refine tk 11 rfl (Ev.buildS (fs := _) (places := [(0, 1), (1, 1)]) z37 rfl Tryz.underlying37 zk (.cons (.c (v := I 4) rfl) (.cons (.t rfl) .nil)) (Fills.cons SFault.l_code rfl (Fills.cons SFault.l_at_ rfl Fills.nil))) ?_
          refine al1 12 rfl ((buildSlice (E := eFault) Tryz.underlying31 ty37 z37 (.cons (.t rfl) .nil) rfl rfl (fun v8 => ?_)))
          refine hdn (al1 13 rfl ((app (E := eFault) Tryz.underlying31 ty37 zb37 zs37 (.t rfl) (.t rfl) (fun v9 => ?_) (hby := ⟨by (show _ ≤ 9223372036854775807); have := faultsUp_len (fun j0 : Nat => g (xs.getD j0 eMirrorConf.zero) j0) d m; simp only [List.length_append, List.length_cons, List.length_nil]; omega, by have := faultsUp_len (fun j0 : Nat => g (xs.getD j0 eMirrorConf.zero) j0) d m; simp only [List.length_append, List.length_cons, List.length_nil]; omega⟩))))
          refine hdn (tk 14 rfl (Ev.nilCheck (.t rfl)) ?_)
          refine tk 15 rfl (fA 0 (.t rfl)) ?_
          refine al1 16 rfl ((stv ty31 SConfFaults.l_l (.t rfl) (.t rfl) ?_))
          refine hdn (ovr (pN (mt (X := OV) (_) trivial (hL := (by unfold listG; rw [← hm2]; (first | rw [if_pos (by omega), ← List.append_assoc] | rw [if_neg (by omega), List.append_nil]); repeat first | exact sR | exact sN | apply sC | apply sS | apply sA)))))
        · refine (opv (Ev.ldv ty3 (.t rfl) SConfFaults.l_at_) ?_)
          refine hdn (tk 10 rfl (Ev.add_i (.t rfl) (.t rfl) (fun _ => by simp; omega)) ?_)
          refine tk 11 rfl (Ev.buildS (fs := _) (places := [(0, 1), (1, 1)]) z37 rfl Tryz.underlying37 zk (.cons (.c (v := I 4) rfl) (.cons (.t rfl) .nil)) (Fills.cons SFault.l_code rfl (Fills.cons SFault.l_at_ rfl Fills.nil))) ?_
          refine all [4, 12] zk (by decide) (.cons rfl ?_ (.cons rfl ?_ .nil))
          · refine (opv (Ev.ldv ty31 (.t rfl) SConfFaults.l_l) ?_)
            refine hdn (al1 12 rfl ((buildSlice (E := eFault) Tryz.underlying31 ty37 z37 (.cons (.t rfl) .nil) rfl rfl (fun v10 => ?_))))
            refine hdn (al1 13 rfl ((app (E := eFault) Tryz.underlying31 ty37 zb37 zs37 (.t rfl) (.t rfl) (fun v11 => ?_) (hby := ⟨by (show _ ≤ 9223372036854775807); have := faultsUp_len (fun j0 : Nat => g (xs.getD j0 eMirrorConf.zero) j0) d m; simp only [List.length_append, List.length_cons, List.length_nil]; omega, by have := faultsUp_len (fun j0 : Nat => g (xs.getD j0 eMirrorConf.zero) j0) d m; simp only [List.length_append, List.length_cons, List.length_nil]; omega⟩))))
            refine hdn (tk 14 rfl (Ev.nilCheck (.t rfl)) ?_)
            refine tk 15 rfl (fA 0 (.t rfl)) ?_
            refine al1 16 rfl ((stv ty31 SConfFaults.l_l (.t rfl) (.t rfl) ?_))
            refine hdn (ovr (pN (mt (X := OV) (_) trivial (hL := (by unfold listG; rw [← hm2]; (first | rw [if_pos (by omega), ← List.append_assoc] | rw [if_neg (by omega), List.append_nil]); repeat first | exact sR | exact sN | apply sC | apply sS | apply sA)))))
          · refine (buildSlice (E := eFault) Tryz.underlying31 ty37 z37 (.cons (.t rfl) .nil) rfl rfl (fun v12 => ?_))
            refine hdn (al1 4 rfl ((opv (Ev.ldv ty31 (.t rfl) SConfFaults.l_l) ?_)))
            refine hdn (al1 13 rfl ((app (E := eFault) Tryz.underlying31 ty37 zb37 zs37 (.t rfl) (.t rfl) (fun v13 => ?_) (hby := ⟨by (show _ ≤ 9223372036854775807); have := faultsUp_len (fun j0 : Nat => g (xs.getD j0 eMirrorConf.zero) j0) d m; simp only [List.length_append, List.length_cons, List.length_nil]; omega, by have := faultsUp_len (fun j0 : Nat => g (xs.getD j0 eMirrorConf.zero) j0) d m; simp only [List.length_append, List.length_cons, List.length_nil]; omega⟩))))
            refine hdn (tk 14 rfl (Ev.nilCheck (.t rfl)) ?_)
            refine tk 15 rfl (fA 0 (.t rfl)) ?_
            refine al1 16 rfl ((stv ty31 SConfFaults.l_l (.t rfl) (.t rfl) ?_))
            refine hdn (ovr (pN (mt (X := OV) (_) trivial (hL := (by unfold listG; rw [← hm2]; (first | rw [if_pos (by omega), ← List.append_assoc] | rw [if_neg (by omega), List.append_nil]); repeat first | exact sR | exact sN | apply sC | apply sS | apply sA)))))
      · try simp only [nb] at h2
        refine skip (pN (mt (X := OV) (_) trivial (hL := (by unfold listG; rw [← hm2]; (first | rw [if_pos (by omega), ← List.append_assoc] | rw [if_neg (by omega), List.append_nil]); repeat first | exact sR | exact sN | apply sC | apply sS | apply sA))))
    obtain ⟨q2, rfl⟩ : ∃ y, y = x := ⟨x, rfl⟩
    show Sat _ _ [(0, true, .pointer (some ⟨b, 0, none⟩)), (1, true, u)] [Var b eConfFaults ⟨q2, d⟩ 88, OwnS q2.v eFault (fs ++ listG (fun j0 : Nat => g (xs.getD j0 eMirrorConf.zero) j0) d xs.length most) 37]
    refine region (mv rfl (co (Ev.nilCheck (.t rfl)) ?_))
    refine co (fA 1 (.t rfl)) ?_
    refine co (Ev.ldv ty3 (.t rfl) SConfFaults.l_at_) ?_
    refine mv rfl (co (Ev.len Tryz.underlying26 (.t rfl) (fun w I => hxs w I.keeps)) ?_)
    refine co (Ev.add_i (.t rfl) (.t rfl) (fun _ => by simp; omega)) ?_
    refine co (Ev.nilCheck (.t rfl)) ?_
    refine co (fA 1 (.t rfl)) ?_
    refine cons (stv ty3 SConfFaults.l_at_ (.t rfl) (.t rfl) ?_)
    refine nil (done' rfl .nil (fun w I => ?_))
    exact retR (r' := fun o2 => FR b o2 (fs ++ listG (fun j0 : Nat => g (xs.getD j0 eMirrorConf.zero) j0) d xs.length most) (d + xs.length)) _ trivial rfl (List.mem_singleton_self _) w (WInv.sepIn (I.sub zs))
def defBad (d : Int) : Bool := !(decide (d = 1) || decide (d = 2) || decide (d = 4))
theorem defBad_eq (d : Int) : defBad d = (decide (¬ d = 1) && decide (¬ d = 2) && decide (¬ d = 4)) := by
  unfold defBad
  by_cases a : d = 1 <;> by_cases b : d = 2 <;> by_cases c : d = 4 <;> simp [a, b, c]
def thingsF (l : CL) : List SFault := ((((([] ++ listG (fun j0 : Nat => portE l.ps (l.ps.getD j0 iE.zero) j0) 0 l.ps.length 256) ++ listG (fun j0 : Nat => routeE l (l.rs.getD j0 eRoute.zero) j0) (0 + (l.ps.length : Int)) l.rs.length 1024) ++ listG (fun j0 : Nat => ruleE l (l.us.getD j0 eRule.zero) j0) ((0 + (l.ps.length : Int)) + (l.rs.length : Int)) l.us.length 256) ++ listG (fun j0 : Nat => meterE l (l.ms.getD j0 eMeterConf.zero) j0) (((0 + (l.ps.length : Int)) + (l.rs.length : Int)) + (l.us.length : Int)) l.ms.length 64) ++ listG (fun j0 : Nat => mirrorE l (l.xs.getD j0 eMirrorConf.zero) j0) ((((0 + (l.ps.length : Int)) + (l.rs.length : Int)) + (l.us.length : Int)) + (l.ms.length : Int)) l.xs.length 16)
def checkF (l : CL) (d : Int) : List SFault := thingsF l ++ (if defBad d = true then [⟨2, (((((0 + (l.ps.length : Int)) + (l.rs.length : Int)) + (l.us.length : Int)) + (l.ms.length : Int)) + (l.xs.length : Int))⟩] else [])
theorem listG_len (e : Nat → Int) (d : Int) (n most : Nat) : (listG e d n most).length ≤ most + 1 := by
  have := faultsUp_len e d (min n most)
  unfold listG
  rw [List.length_append]
  split <;> simp <;> omega
theorem thingsF_len (l : CL) : (thingsF l).length ≤ 1700 := by
  unfold thingsF
  simp only [List.length_append, List.length_nil]
  have h0 := listG_len (fun j0 : Nat => portE l.ps (l.ps.getD j0 iE.zero) j0) 0 l.ps.length 256
  have h1 := listG_len (fun j0 : Nat => routeE l (l.rs.getD j0 eRoute.zero) j0) (0 + (l.ps.length : Int)) l.rs.length 1024
  have h2 := listG_len (fun j0 : Nat => ruleE l (l.us.getD j0 eRule.zero) j0) ((0 + (l.ps.length : Int)) + (l.rs.length : Int)) l.us.length 256
  have h3 := listG_len (fun j0 : Nat => meterE l (l.ms.getD j0 eMeterConf.zero) j0) (((0 + (l.ps.length : Int)) + (l.rs.length : Int)) + (l.us.length : Int)) l.ms.length 64
  have h4 := listG_len (fun j0 : Nat => mirrorE l (l.xs.getD j0 eMirrorConf.zero) j0) ((((0 + (l.ps.length : Int)) + (l.rs.length : Int)) + (l.us.length : Int)) + (l.ms.length : Int)) l.xs.length 16
  omega
structure CL.Names (l : CL) : Prop where
  us : ∀ x ∈ l.us, x.name.size ≤ 9223372036854775807
  ms : ∀ x ∈ l.ms, x.name.size ≤ 9223372036854775807
  xs : ∀ x ∈ l.xs, x.name.size ≤ 9223372036854775807
def CL.n (l : CL) : Nat := l.ps.length + l.rs.length + l.us.length + l.ms.length + l.xs.length
theorem getD_in {α : Type} (l : List α) (i : Nat) (d : α) (h : i < l.length) : l.getD i d ∈ l := by simp [List.getD, h]
theorem en38 : Gx.Enters Tryz.prog 38 := Gx.Enters.mk' zk
theorem en40 : Gx.Enters Tryz.prog 40 := Gx.Enters.mk' zk
theorem en42 : Gx.Enters Tryz.prog 42 := Gx.Enters.mk' zk
theorem en44 : Gx.Enters Tryz.prog 44 := Gx.Enters.mk' zk
theorem en46 : Gx.Enters Tryz.prog 46 := Gx.Enters.mk' zk
theorem en36 : Gx.Enters Tryz.prog 36 := Gx.Enters.mk' zk
theorem z88 : (Tryz.prog.info? 88).bind (·.zero) = some (eConfFaults.val eConfFaults.zero) := by kernel_rfl
theorem en37 : Gx.Enters Tryz.prog 37 := Gx.Enters.mk' zk
theorem en39 : Gx.Enters Tryz.prog 39 := Gx.Enters.mk' zk
theorem en41 : Gx.Enters Tryz.prog 41 := Gx.Enters.mk' zk
theorem en43 : Gx.Enters Tryz.prog 43 := Gx.Enters.mk' zk
theorem en45 : Gx.Enters Tryz.prog 45 := Gx.Enters.mk' zk
theorem conf_check (c : SConf) (l : CL) (w : World) (hc : ConfAt w c l) (hn : l.Names) (hz : l.n ≤ 4611686018427387904) : Calls Tryz.prog 12 #[eConf.val c] w (RetO w eFault (checkF l c.default) 37) := by
  unfold CL.n at hz
  refine en0 69 Tryz.func12 ?_
  refine sg (cons (box (E := eConf) (.t rfl) (fun b1 => ?_)))
  refine co (Ev.assign (.c (v := (Go.Value.slice none 0 0)) rfl)) ?_
  refine nP (sg (co (Ev.ldv ty28 (.t rfl) (Lens.id _)) ?_))
  refine cons (calln (X := KB) (fun _ => True) (fun x => eConfKnown.val x.k) (fun x => x.R l) en36 (.cons (.t rfl) .nil) (fun w I => of_ok _ l w (hc.keep0 I.keeps)) (fun kb _ => ?_))
  refine cons (alloc z84 (fun b2 => ?_))
  refine cons (stv ty84 (Lens.id _) (.t rfl) (.t rfl) ?_)
  refine nP (sg (co (Ev.buildS (fs := _) (places := [(0, 1), (1, 1)]) z88 rfl Tryz.underlying88 zk .nil Fills.nil) ?_))
  refine cons (box (E := eConfFaults) (.t rfl) (fun b3 => ?_))
  refine asn rfl (nP (sg (takeNil eFault 37 ?_)))
  refine sepIn (r := Var b3 eConfFaults ⟨nilSl, 0⟩ 88) (s := OwnS nilSl.v eFault [] 37) (Rem.tail Rem.head) Rem.head ?_
  refine mv rfl (co (fA 0 (.t rfl)) ?_)
  refine co (Ev.ldv ty22 (.t rfl) SConf.l_ports) ?_
  refine co (Ev.makeFunc (f := 38) (.cons (.t rfl) .nil)) ?_
  refine cons (callr (X := OV) (r := FR b3 nilSl [] 0) (r' := fun o2 => FR b3 o2 (([] ++ listG (fun j0 : Nat => portE l.ps (l.ps.getD j0 iE.zero) j0) 0 l.ps.length 256)) (0 + (l.ps.length : Int))) (fun _ => True) (fun _ => .tuple #[]) (fun _ => Upd.head) List.mem_cons_self en37 (.cons (.t rfl) (.cons (.t rfl) (.cons (.c (v := I 256) rfl) (.cons (.t rfl) .nil)))) (fun w I => list_3 38 [] [.pointer (some ⟨b1, 0, none⟩)] (portE l.ps) (fun _ i => 0 ≤ i ∧ i < l.ps.length) b3 nilSl [] 0 _ l.ps 256 w en38 (at_mem List.mem_cons_self w I) (fun w1 k1 => hc.ps.keep0 (I.but Rem.head k1).keeps) (fun p i w1 h1 k1 => port1_ok c l.ps b1 p i w1 (by have I1 := I.but Rem.head k1; exact ptsVar (by repeat first | exact mH | apply mT | apply mA) (Lens.id _) w1 I1) (hc.ps.keep0 (I.but Rem.head k1).keeps) h1) (fun i hi => by constructor <;> omega) (by constructor <;> omega) (by simp only [List.length_append, List.length_nil]; omega)) (fun o1 _ => ?_))
  refine nP (sg (mv rfl (co (fA 1 (.t rfl)) ?_)))
  refine co (Ev.ldv ty23 (.t rfl) SConf.l_routes) ?_
  refine co (Ev.ldv ty84 (.t rfl) (Lens.id _)) ?_
  refine co (Ev.makeBound (f := 40) (.cons (.t rfl) .nil) .nil) ?_
  refine cons (callr (X := OV) (r := FR b3 o1 ([] ++ listG (fun j0 : Nat => portE l.ps (l.ps.getD j0 iE.zero) j0) 0 l.ps.length 256) (0 + (l.ps.length : Int))) (r' := fun o2 => FR b3 o2 ((([] ++ listG (fun j0 : Nat => portE l.ps (l.ps.getD j0 iE.zero) j0) 0 l.ps.length 256) ++ listG (fun j0 : Nat => routeE l (l.rs.getD j0 eRoute.zero) j0) (0 + (l.ps.length : Int)) l.rs.length 1024)) ((0 + (l.ps.length : Int)) + (l.rs.length : Int))) (fun _ => True) (fun _ => .tuple #[]) (fun _ => Upd.head) List.mem_cons_self en39 (.cons (.t rfl) (.cons (.t rfl) (.cons (.c (v := I 1024) rfl) (.cons (.t rfl) .nil)))) (fun w I => list_52 40 [eConfKnown.val kb.k] [] (routeE l) (fun _ _ => True) b3 o1 ([] ++ listG (fun j0 : Nat => portE l.ps (l.ps.getD j0 iE.zero) j0) 0 l.ps.length 256) (0 + (l.ps.length : Int)) _ l.rs 1024 w en40 (at_mem List.mem_cons_self w I) (fun w1 k1 => hc.rs.keep0 (I.but Rem.head k1).keeps) (fun x i w1 h1 k1 => route_ok kb l x i w1 (knownAt_own (fun r hr => by repeat first | exact List.mem_append_left _ hr | apply List.Mem.tail) w1 (I.but Rem.head k1))) (fun i hi => trivial) (by constructor <;> omega) (by have := listG_len (fun j0 : Nat => portE l.ps (l.ps.getD j0 iE.zero) j0) 0 l.ps.length 256; simp only [List.length_append, List.length_nil]; omega)) (fun o2 _ => ?_))
  refine nP (sg (mv rfl (co (fA 2 (.t rfl)) ?_)))
  refine co (Ev.ldv ty24 (.t rfl) SConf.l_rules) ?_
  refine co (Ev.ldv ty84 (.t rfl) (Lens.id _)) ?_
  refine co (Ev.makeBound (f := 42) (.cons (.t rfl) .nil) .nil) ?_
  refine cons (callr (X := OV) (r := FR b3 o2 (([] ++ listG (fun j0 : Nat => portE l.ps (l.ps.getD j0 iE.zero) j0) 0 l.ps.length 256) ++ listG (fun j0 : Nat => routeE l (l.rs.getD j0 eRoute.zero) j0) (0 + (l.ps.length : Int)) l.rs.length 1024) ((0 + (l.ps.length : Int)) + (l.rs.length : Int))) (r' := fun o2 => FR b3 o2 (((([] ++ listG (fun j0 : Nat => portE l.ps (l.ps.getD j0 iE.zero) j0) 0 l.ps.length 256) ++ listG (fun j0 : Nat => routeE l (l.rs.getD j0 eRoute.zero) j0) (0 + (l.ps.length : Int)) l.rs.length 1024) ++ listG (fun j0 : Nat => ruleE l (l.us.getD j0 eRule.zero) j0) ((0 + (l.ps.length : Int)) + (l.rs.length : Int)) l.us.length 256)) (((0 + (l.ps.length : Int)) + (l.rs.length : Int)) + (l.us.length : Int))) (fun _ => True) (fun _ => .tuple #[]) (fun _ => Upd.head) List.mem_cons_self en41 (.cons (.t rfl) (.cons (.t rfl) (.cons (.c (v := I 256) rfl) (.cons (.t rfl) .nil)))) (fun w I => list_76 42 [eConfKnown.val kb.k] [] (ruleE l) (fun x _ => x ∈ l.us) b3 o2 (([] ++ listG (fun j0 : Nat => portE l.ps (l.ps.getD j0 iE.zero) j0) 0 l.ps.length 256) ++ listG (fun j0 : Nat => routeE l (l.rs.getD j0 eRoute.zero) j0) (0 + (l.ps.length : Int)) l.rs.length 1024) ((0 + (l.ps.length : Int)) + (l.rs.length : Int)) _ l.us 256 w en42 (at_mem List.mem_cons_self w I) (fun w1 k1 => hc.us.keep0 (I.but Rem.head k1).keeps) (fun x i w1 h1 k1 => rule_ok kb l x i w1 (knownAt_own (fun r hr => by repeat first | exact List.mem_append_left _ hr | apply List.Mem.tail) w1 (I.but Rem.head k1)) (hn.us x h1)) (fun i hi => getD_in _ _ _ hi) (by constructor <;> omega) (by have := listG_len (fun j0 : Nat => portE l.ps (l.ps.getD j0 iE.zero) j0) 0 l.ps.length 256; have := listG_len (fun j0 : Nat => routeE l (l.rs.getD j0 eRoute.zero) j0) (0 + (l.ps.length : Int)) l.rs.length 1024; simp only [List.length_append, List.length_nil]; omega)) (fun o3 _ => ?_))
  refine nP (sg (mv rfl (co (fA 3 (.t rfl)) ?_)))
  refine co (Ev.ldv ty25 (.t rfl) SConf.l_meters) ?_
  refine co (Ev.ldv ty84 (.t rfl) (Lens.id _)) ?_
  refine co (Ev.makeBound (f := 44) (.cons (.t rfl) .nil) .nil) ?_
  refine cons (callr (X := OV) (r := FR b3 o3 ((([] ++ listG (fun j0 : Nat => portE l.ps (l.ps.getD j0 iE.zero) j0) 0 l.ps.length 256) ++ listG (fun j0 : Nat => routeE l (l.rs.getD j0 eRoute.zero) j0) (0 + (l.ps.length : Int)) l.rs.length 1024) ++ listG (fun j0 : Nat => ruleE l (l.us.getD j0 eRule.zero) j0) ((0 + (l.ps.length : Int)) + (l.rs.length : Int)) l.us.length 256) (((0 + (l.ps.length : Int)) + (l.rs.length : Int)) + (l.us.length : Int))) (r' := fun o2 => FR b3 o2 ((((([] ++ listG (fun j0 : Nat => portE l.ps (l.ps.getD j0 iE.zero) j0) 0 l.ps.length 256) ++ listG (fun j0 : Nat => routeE l (l.rs.getD j0 eRoute.zero) j0) (0 + (l.ps.length : Int)) l.rs.length 1024) ++ listG (fun j0 : Nat => ruleE l (l.us.getD j0 eRule.zero) j0) ((0 + (l.ps.length : Int)) + (l.rs.length : Int)) l.us.length 256) ++ listG (fun j0 : Nat => meterE l (l.ms.getD j0 eMeterConf.zero) j0) (((0 + (l.ps.length : Int)) + (l.rs.length : Int)) + (l.us.length : Int)) l.ms.length 64)) ((((0 + (l.ps.length : Int)) + (l.rs.length : Int)) + (l.us.length : Int)) + (l.ms.length : Int))) (fun _ => True) (fun _ => .tuple #[]) (fun _ => Upd.head) List.mem_cons_self en43 (.cons (.t rfl) (.cons (.t rfl) (.cons (.c (v := I 64) rfl) (.cons (.t rfl) .nil)))) (fun w I => list_57 44 [eConfKnown.val kb.k] [] (meterE l) (fun x _ => x ∈ l.ms) b3 o3 ((([] ++ listG (fun j0 : Nat => portE l.ps (l.ps.getD j0 iE.zero) j0) 0 l.ps.length 256) ++ listG (fun j0 : Nat => routeE l (l.rs.getD j0 eRoute.zero) j0) (0 + (l.ps.length : Int)) l.rs.length 1024) ++ listG (fun j0 : Nat => ruleE l (l.us.getD j0 eRule.zero) j0) ((0 + (l.ps.length : Int)) + (l.rs.length : Int)) l.us.length 256) (((0 + (l.ps.length : Int)) + (l.rs.length : Int)) + (l.us.length : Int)) _ l.ms 64 w en44 (at_mem List.mem_cons_self w I) (fun w1 k1 => hc.ms.keep0 (I.but Rem.head k1).keeps) (fun x i w1 h1 k1 => meter_ok kb l x i w1 (knownAt_own (fun r hr => by repeat first | exact List.mem_append_left _ hr | apply List.Mem.tail) w1 (I.but Rem.head k1)) (hn.ms x h1)) (fun i hi => getD_in _ _ _ hi) (by constructor <;> omega) (by have := listG_len (fun j0 : Nat => portE l.ps (l.ps.getD j0 iE.zero) j0) 0 l.ps.length 256; have := listG_len (fun j0 : Nat => routeE l (l.rs.getD j0 eRoute.zero) j0) (0 + (l.ps.length : Int)) l.rs.length 1024; have := listG_len (fun j0 : Nat => ruleE l (l.us.getD j0 eRule.zero) j0) ((0 + (l.ps.length : Int)) + (l.rs.length : Int)) l.us.length 256; simp only [List.length_append, List.length_nil]; omega)) (fun o4 _ => ?_))
  refine nP (sg (mv rfl (co (fA 4 (.t rfl)) ?_)))
  refine co (Ev.ldv ty26 (.t rfl) SConf.l_mirrors) ?_
  refine co (Ev.ldv ty84 (.t rfl) (Lens.id _)) ?_
  refine co (Ev.makeBound (f := 46) (.cons (.t rfl) .nil) .nil) ?_
  refine cons (callr (X := OV) (r := FR b3 o4 (((([] ++ listG (fun j0 : Nat => portE l.ps (l.ps.getD j0 iE.zero) j0) 0 l.ps.length 256) ++ listG (fun j0 : Nat => routeE l (l.rs.getD j0 eRoute.zero) j0) (0 + (l.ps.length : Int)) l.rs.length 1024) ++ listG (fun j0 : Nat => ruleE l (l.us.getD j0 eRule.zero) j0) ((0 + (l.ps.length : Int)) + (l.rs.length : Int)) l.us.length 256) ++ listG (fun j0 : Nat => meterE l (l.ms.getD j0 eMeterConf.zero) j0) (((0 + (l.ps.length : Int)) + (l.rs.length : Int)) + (l.us.length : Int)) l.ms.length 64) ((((0 + (l.ps.length : Int)) + (l.rs.length : Int)) + (l.us.length : Int)) + (l.ms.length : Int))) (r' := fun o2 => FR b3 o2 (((((([] ++ listG (fun j0 : Nat => portE l.ps (l.ps.getD j0 iE.zero) j0) 0 l.ps.length 256) ++ listG (fun j0 : Nat => routeE l (l.rs.getD j0 eRoute.zero) j0) (0 + (l.ps.length : Int)) l.rs.length 1024) ++ listG (fun j0 : Nat => ruleE l (l.us.getD j0 eRule.zero) j0) ((0 + (l.ps.length : Int)) + (l.rs.length : Int)) l.us.length 256) ++ listG (fun j0 : Nat => meterE l (l.ms.getD j0 eMeterConf.zero) j0) (((0 + (l.ps.length : Int)) + (l.rs.length : Int)) + (l.us.length : Int)) l.ms.length 64) ++ listG (fun j0 : Nat => mirrorE l (l.xs.getD j0 eMirrorConf.zero) j0) ((((0 + (l.ps.length : Int)) + (l.rs.length : Int)) + (l.us.length : Int)) + (l.ms.length : Int)) l.xs.length 16)) (((((0 + (l.ps.length : Int)) + (l.rs.length : Int)) + (l.us.length : Int)) + (l.ms.length : Int)) + (l.xs.length : Int))) (fun _ => True) (fun _ => .tuple #[]) (fun _ => Upd.head) List.mem_cons_self en45 (.cons (.t rfl) (.cons (.t rfl) (.cons (.c (v := I 16) rfl) (.cons (.t rfl) .nil)))) (fun w I => list_59 46 [eConfKnown.val kb.k] [] (mirrorE l) (fun x _ => x ∈ l.xs) b3 o4 (((([] ++ listG (fun j0 : Nat => portE l.ps (l.ps.getD j0 iE.zero) j0) 0 l.ps.length 256) ++ listG (fun j0 : Nat => routeE l (l.rs.getD j0 eRoute.zero) j0) (0 + (l.ps.length : Int)) l.rs.length 1024) ++ listG (fun j0 : Nat => ruleE l (l.us.getD j0 eRule.zero) j0) ((0 + (l.ps.length : Int)) + (l.rs.length : Int)) l.us.length 256) ++ listG (fun j0 : Nat => meterE l (l.ms.getD j0 eMeterConf.zero) j0) (((0 + (l.ps.length : Int)) + (l.rs.length : Int)) + (l.us.length : Int)) l.ms.length 64) ((((0 + (l.ps.length : Int)) + (l.rs.length : Int)) + (l.us.length : Int)) + (l.ms.length : Int)) _ l.xs 16 w en46 (at_mem List.mem_cons_self w I) (fun w1 k1 => hc.xs.keep0 (I.but Rem.head k1).keeps) (fun x i w1 h1 k1 => mirror_ok kb l x i w1 (knownAt_own (fun r hr => by repeat first | exact List.mem_append_left _ hr | apply List.Mem.tail) w1 (I.but Rem.head k1)) (hn.xs x h1)) (fun i hi => getD_in _ _ _ hi) (by constructor <;> omega) (by have := listG_len (fun j0 : Nat => portE l.ps (l.ps.getD j0 iE.zero) j0) 0 l.ps.length 256; have := listG_len (fun j0 : Nat => routeE l (l.rs.getD j0 eRoute.zero) j0) (0 + (l.ps.length : Int)) l.rs.length 1024; have := listG_len (fun j0 : Nat => ruleE l (l.us.getD j0 eRule.zero) j0) ((0 + (l.ps.length : Int)) + (l.rs.length : Int)) l.us.length 256; have := listG_len (fun j0 : Nat => meterE l (l.ms.getD j0 eMeterConf.zero) j0) (((0 + (l.ps.length : Int)) + (l.rs.length : Int)) + (l.us.length : Int)) l.ms.length 64; simp only [List.length_append, List.length_nil]; omega)) (fun o5 _ => ?_))
  refine nP (cut (X := OV) (fun x : OV => True) (fun x : OV => [(4, true, .pointer (some ⟨b3, 0, none⟩))]) (fun x : OV => [Var b3 eConfFaults ⟨x, (((((0 + (l.ps.length : Int)) + (l.rs.length : Int)) + (l.us.length : Int)) + (l.ms.length : Int)) + (l.xs.length : Int))⟩ 88, OwnS x.v eFault (checkF l c.default) 37]) ?_ (fun x hx => ?_))
  · refine sg (sepOut Rem.head ?_)
    refine co (fA 5 (.t rfl)) ?_
    refine co (Ev.ldv ty3 (.t rfl) SConf.l_default) ?_
    refine co (Ev.neq_i (.t rfl) (.c (v := I 1) rfl)) ?_
    refine mv rfl (cg rfl rfl (fA 5 (.t rfl)) ?_)
    refine cg rfl rfl (Ev.ldv ty3 (.g rfl id) SConf.l_default) ?_
    refine cg rfl rfl (Ev.neq_i (.g rfl id) (.c (v := I 2) rfl)) ?_
    refine co (Ev.pkA (.t rfl) rfl) ?_
    refine mv rfl (cg rfl rfl (fA 5 (.t rfl)) ?_)
    refine cg rfl rfl (Ev.ldv ty3 (.g rfl id) SConf.l_default) ?_
    refine cg rfl rfl (Ev.neq_i (.g rfl id) (.c (v := I 4) rfl)) ?_
    refine co (Ev.pkA (.t rfl) rfl) ?_
    refine nP ?_
    first | refine condD rfl (fun h0 => ?_) (fun h0 => ?_) | refine cond rfl (fun h0 => ?_) (fun h0 => ?_)
    · have hdb : defBad c.default = true := (defBad_eq _).trans h0
      refine draw [] zk ?_
      refine tk 0 rfl (Ev.move (.t rfl)) ?_
      refine tk 1 rfl (Ev.move (.t rfl)) ?_
      refine tk 2 rfl (Ev.nilCheck (.t rfl)) ?_
      refine tk 3 rfl (fA 0 (.t rfl)) ?_
      refine tk 5 rfl (Ev.move (.t rfl)) ?_
      refine tk 6 rfl (Ev.nilCheck (.t rfl)) ?_
      refine tk 7 rfl (fA 1 (.t rfl)) ?_
      refine all [4, 8] zk (by decide) (.cons rfl ?_ (.cons rfl ?_ .nil))
      · refine (opv (Ev.ldv ty31 (.t rfl) SConfFaults.l_l) ?_)
        refine hdn (al1 8 rfl ((opv (Ev.ldv ty3 (.t rfl) SConfFaults.l_at_) ?_)))
        refine hdn (tk 9 rfl (Ev.buildS (fs := _) (places := [(0, 1), (1, 1)]) z37 rfl Tryz.underlying37 zk (.cons (.c (v := I 2) rfl) (.cons (.t rfl) .nil)) (Fills.cons SFault.l_code rfl (Fills.cons SFault.l_at_ rfl Fills.nil))) ?_)
        refine al1 10 rfl ((buildSlice (E := eFault) Tryz.underlying31 ty37 z37 (.cons (.t rfl) .nil) rfl rfl (fun v4 => ?_)))
        refine hdn (al1 11 rfl ((app (E := eFault) Tryz.underlying31 ty37 zb37 zs37 (.t rfl) (.t rfl) (fun v5 => ?_) (hby := ⟨by (show _ ≤ 9223372036854775807); have := thingsF_len l; simp only [List.length_cons, List.length_nil]; unfold thingsF at this; omega, by have := thingsF_len l; simp only [List.length_cons, List.length_nil]; unfold thingsF at this; omega⟩))))
        refine hdn (tk 12 rfl (Ev.nilCheck (.t rfl)) ?_)
        refine tk 13 rfl (fA 0 (.t rfl)) ?_
        refine al1 14 rfl ((stv ty31 SConfFaults.l_l (.t rfl) (.t rfl) ?_))
        refine hdn (ovr (pN (mt (X := OV) (_) trivial (hL := (by unfold checkF; (first | rw [if_pos hdb] | rw [if_neg hdb, List.append_nil]); repeat first | exact sR | exact sN | apply sC | apply sS | apply sA)))))
      · refine (opv (Ev.ldv ty3 (.t rfl) SConfFaults.l_at_) ?_)
        refine hdn (tk 9 rfl (Ev.buildS (fs := _) (places := [(0, 1), (1, 1)]) z37 rfl Tryz.underlying37 zk (.cons (.c (v := I 2) rfl) (.cons (.t rfl) .nil)) (Fills.cons SFault.l_code rfl (Fills.cons SFault.l_at_ rfl Fills.nil))) ?_)
        refine all [4, 10] zk (by decide) (.cons rfl ?_ (.cons rfl ?_ .nil))
        · refine (opv (Ev.ldv ty31 (.t rfl) SConfFaults.l_l) ?_)
          refine hdn (al1 10 rfl ((buildSlice (E := eFault) Tryz.underlying31 ty37 z37 (.cons (.t rfl) .nil) rfl rfl (fun v6 => ?_))))
          refine hdn (al1 11 rfl ((app (E := eFault) Tryz.underlying31 ty37 zb37 zs37 (.t rfl) (.t rfl) (fun v7 => ?_) (hby := ⟨by (show _ ≤ 9223372036854775807); have := thingsF_len l; simp only [List.length_cons, List.length_nil]; unfold thingsF at this; omega, by have := thingsF_len l; simp only [List.length_cons, List.length_nil]; unfold thingsF at this; omega⟩))))
          refine hdn (tk 12 rfl (Ev.nilCheck (.t rfl)) ?_)
          refine tk 13 rfl (fA 0 (.t rfl)) ?_
          refine al1 14 rfl ((stv ty31 SConfFaults.l_l (.t rfl) (.t rfl) ?_))
          refine hdn (ovr (pN (mt (X := OV) (_) trivial (hL := (by unfold checkF; (first | rw [if_pos hdb] | rw [if_neg hdb, List.append_nil]); repeat first | exact sR | exact sN | apply sC | apply sS | apply sA)))))
        · refine (buildSlice (E := eFault) Tryz.underlying31 ty37 z37 (.cons (.t rfl) .nil) rfl rfl (fun v8 => ?_))
          refine hdn (al1 4 rfl ((opv (Ev.ldv ty31 (.t rfl) SConfFaults.l_l) ?_)))
          refine hdn (al1 11 rfl ((app (E := eFault) Tryz.underlying31 ty37 zb37 zs37 (.t rfl) (.t rfl) (fun v9 => ?_) (hby := ⟨by (show _ ≤ 9223372036854775807); have := thingsF_len l; simp only [List.length_cons, List.length_nil]; unfold thingsF at this; omega, by have := thingsF_len l; simp only [List.length_cons, List.length_nil]; unfold thingsF at this; omega⟩))))
          refine hdn (tk 12 rfl (Ev.nilCheck (.t rfl)) ?_)
          refine tk 13 rfl (fA 0 (.t rfl)) ?_
          refine al1 14 rfl ((stv ty31 SConfFaults.l_l (.t rfl) (.t rfl) ?_))
          refine hdn (ovr (pN (mt (X := OV) (_) trivial (hL := (by unfold checkF; (first | rw [if_pos hdb] | rw [if_neg hdb, List.append_nil]); repeat first | exact sR | exact sN | apply sC | apply sS | apply sA)))))
    · have hdb : ¬ defBad c.default = true := by rw [show defBad c.default = false from (defBad_eq _).trans h0]; exact Bool.false_ne_true
      refine skip (pN (mt (X := OV) (_) trivial (hL := (by unfold checkF; (first | rw [if_pos hdb] | rw [if_neg hdb, List.append_nil]); repeat first | exact sR | exact sN | apply sC | apply sS | apply sA))))
  obtain ⟨q, rfl⟩ : ∃ y, y = x := ⟨x, rfl⟩
  show Sat _ _ [(4, true, .pointer (some ⟨b3, 0, none⟩))] [Var b3 eConfFaults ⟨q, (((((0 + (l.ps.length : Int)) + (l.rs.length : Int)) + (l.us.length : Int)) + (l.ms.length : Int)) + (l.xs.length : Int))⟩ 88, OwnS q.v eFault (checkF l c.default) 37]
  refine sg (mv rfl (co (Ev.nilCheck (.t rfl)) ?_))
  refine co (fA 0 (.t rfl)) ?_
  refine co (Ev.ldv ty31 (.t rfl) SConfFaults.l_l) ?_
  refine asn rfl (nP (ret (done rfl (.tmp rfl .nil) (retOE zm ?_))))
  rfl
def mayB (l : CL) (d : Int) : Bool := decide (checkF l d = [])
theorem checkF_len (l : CL) (d : Int) : (checkF l d).length ≤ 1701 := by
  have := thingsF_len l
  unfold checkF
  rw [List.length_append]
  split <;> simp <;> omega
theorem en12 : Gx.Enters Tryz.prog 12 := Gx.Enters.mk' zk
theorem may_ok (c : SConf) (l : CL) (w : World) (hc : ConfAt w c l) (hn : l.Names) (hz : l.n ≤ 4611686018427387904) : Calls Tryz.prog 15 #[eConf.val c] w (RetV w (.bool (mayB l c.default))) := by
  refine en0 7 Tryz.func15 ?_
  refine sg (cons (box (E := eConf) (.t rfl) (fun b1 => ?_)))
  refine co (Ev.assign (.c (v := .bool false) rfl)) ?_
  refine nP (sg (co (Ev.ldx c ty28 (.t rfl) (Lens.id _)) ?_))
  refine cons (callo en12 (.cons (.t rfl) .nil) (fun w I => conf_check c l w (hc.keep0 I.keeps) hn hz) (fun v2 => ?_))
  refine co (Ev.len Tryz.underlying31 (.t rfl) zf) ?_
  refine co (Ev.eql_i (.t rfl) (.c (v := I 0) rfl)) ?_
  refine asn rfl (nP (ret (done rfl (.tmp rfl .nil) (retE ?_))))
  unfold mayB
  refine congrArg Value.bool ?_
  rw [Bool.eq_iff_iff, decide_eq_true_iff, decide_eq_true_iff, ← List.length_eq_zero_iff]
  omega
structure SChange where
  kind : Int
  port : Int
  route : SRoute
  meter : SMeterConf
  mirror : SMirrorConf
  rules : OV
  default : Int
def SChange.to : (Int × (Int × (SRoute × (SMeterConf × (SMirrorConf × (OV × Int)))))) → SChange := fun x => ⟨x.1, x.2.1, x.2.2.1, x.2.2.2.1, x.2.2.2.2.1, x.2.2.2.2.2.1, x.2.2.2.2.2.2⟩
def SChange.of : SChange → (Int × (Int × (SRoute × (SMeterConf × (SMirrorConf × (OV × Int)))))) := fun x => (x.kind, x.port, x.route, x.meter, x.mirror, x.rules, x.default)
def eChange : Enc SChange := isoE (prodE iE (prodE iE (prodE eRoute (prodE eMeterConf (prodE eMirrorConf (prodE (ovE nilSl) iE)))))) SChange.to SChange.of
def SChange.l_kind : Lens eChange iE 0 := lIso _ SChange.to SChange.of (fun _ => rfl) (lFst iE (prodE iE (prodE eRoute (prodE eMeterConf (prodE eMirrorConf (prodE (ovE nilSl) iE))))))
@[simp] theorem SChange.get_kind (x : SChange) : SChange.l_kind.get x = x.kind := rfl
@[simp] theorem SChange.set_kind (x : SChange) (y : Int) : SChange.l_kind.set x y = { x with kind := y } := rfl
def SChange.l_port : Lens eChange iE 1 := lIso _ SChange.to SChange.of (fun _ => rfl) (Lens.comp (lSnd iE (prodE iE (prodE eRoute (prodE eMeterConf (prodE eMirrorConf (prodE (ovE nilSl) iE)))))) (lFst iE (prodE eRoute (prodE eMeterConf (prodE eMirrorConf (prodE (ovE nilSl) iE))))))
@[simp] theorem SChange.get_port (x : SChange) : SChange.l_port.get x = x.port := rfl
@[simp] theorem SChange.set_port (x : SChange) (y : Int) : SChange.l_port.set x y = { x with port := y } := rfl
def SChange.l_route : Lens eChange eRoute 2 := lIso _ SChange.to SChange.of (fun _ => rfl) (Lens.comp (lSnd iE (prodE iE (prodE eRoute (prodE eMeterConf (prodE eMirrorConf (prodE (ovE nilSl) iE)))))) (Lens.comp (lSnd iE (prodE eRoute (prodE eMeterConf (prodE eMirrorConf (prodE (ovE nilSl) iE))))) (lFst eRoute (prodE eMeterConf (prodE eMirrorConf (prodE (ovE nilSl) iE))))))
@[simp] theorem SChange.get_route (x : SChange) : SChange.l_route.get x = x.route := rfl
@[simp] theorem SChange.set_route (x : SChange) (y : SRoute) : SChange.l_route.set x y = { x with route := y } := rfl
def SChange.l_meter : Lens eChange eMeterConf 21 := lIso _ SChange.to SChange.of (fun _ => rfl) (Lens.comp (lSnd iE (prodE iE (prodE eRoute (prodE eMeterConf (prodE eMirrorConf (prodE (ovE nilSl) iE)))))) (Lens.comp (lSnd iE (prodE eRoute (prodE eMeterConf (prodE eMirrorConf (prodE (ovE nilSl) iE))))) (Lens.comp (lSnd eRoute (prodE eMeterConf (prodE eMirrorConf (prodE (ovE nilSl) iE)))) (lFst eMeterConf (prodE eMirrorConf (prodE (ovE nilSl) iE))))))
@[simp] theorem SChange.get_meter (x : SChange) : SChange.l_meter.get x = x.meter := rfl
@[simp] theorem SChange.set_meter (x : SChange) (y : SMeterConf) : SChange.l_meter.set x y = { x with meter := y } := rfl
def SChange.l_mirror : Lens eChange eMirrorConf 25 := lIso _ SChange.to SChange.of (fun _ => rfl) (Lens.comp (lSnd iE (prodE iE (prodE eRoute (prodE eMeterConf (prodE eMirrorConf (prodE (ovE nilSl) iE)))))) (Lens.comp (lSnd iE (prodE eRoute (prodE eMeterConf (prodE eMirrorConf (prodE (ovE nilSl) iE))))) (Lens.comp (lSnd eRoute (prodE eMeterConf (prodE eMirrorConf (prodE (ovE nilSl) iE)))) (Lens.comp (lSnd eMeterConf (prodE eMirrorConf (prodE (ovE nilSl) iE))) (lFst eMirrorConf (prodE (ovE nilSl) iE))))))
@[simp] theorem SChange.get_mirror (x : SChange) : SChange.l_mirror.get x = x.mirror := rfl
@[simp] theorem SChange.set_mirror (x : SChange) (y : SMirrorConf) : SChange.l_mirror.set x y = { x with mirror := y } := rfl
def SChange.l_rules : Lens eChange (ovE nilSl) 28 := lIso _ SChange.to SChange.of (fun _ => rfl) (Lens.comp (lSnd iE (prodE iE (prodE eRoute (prodE eMeterConf (prodE eMirrorConf (prodE (ovE nilSl) iE)))))) (Lens.comp (lSnd iE (prodE eRoute (prodE eMeterConf (prodE eMirrorConf (prodE (ovE nilSl) iE))))) (Lens.comp (lSnd eRoute (prodE eMeterConf (prodE eMirrorConf (prodE (ovE nilSl) iE)))) (Lens.comp (lSnd eMeterConf (prodE eMirrorConf (prodE (ovE nilSl) iE))) (Lens.comp (lSnd eMirrorConf (prodE (ovE nilSl) iE)) (lFst (ovE nilSl) iE))))))
@[simp] theorem SChange.get_rules (x : SChange) : SChange.l_rules.get x = x.rules := rfl
@[simp] theorem SChange.set_rules (x : SChange) (y : OV) : SChange.l_rules.set x y = { x with rules := y } := rfl
def SChange.l_default : Lens eChange iE 29 := lIso _ SChange.to SChange.of (fun _ => rfl) (Lens.comp (lSnd iE (prodE iE (prodE eRoute (prodE eMeterConf (prodE eMirrorConf (prodE (ovE nilSl) iE)))))) (Lens.comp (lSnd iE (prodE eRoute (prodE eMeterConf (prodE eMirrorConf (prodE (ovE nilSl) iE))))) (Lens.comp (lSnd eRoute (prodE eMeterConf (prodE eMirrorConf (prodE (ovE nilSl) iE)))) (Lens.comp (lSnd eMeterConf (prodE eMirrorConf (prodE (ovE nilSl) iE))) (Lens.comp (lSnd eMirrorConf (prodE (ovE nilSl) iE)) (Lens.comp (lSnd (ovE nilSl) iE) (Lens.id iE)))))))
@[simp] theorem SChange.get_default (x : SChange) : SChange.l_default.get x = x.default := rfl
@[simp] theorem SChange.set_default (x : SChange) (y : Int) : SChange.l_default.set x y = { x with default := y } := rfl
def KnR (x : KB) (l : CL) : Res := Sep (MapR x.b5 sE iE (mirrorsM l)) (Sep (MapR x.b4 sE iE (metersM l)) (Sep (MapR x.b3 sE iE (rulesM l)) (Sep (MapR x.b2 ePrefix iE (routesM l)) (MapR x.b1 iE iE (portsM l)))))
theorem known_in {K : Ctx} {F : Fr} {L : List Res} {X : Act → World → Prop} {x : KB} {l : CL} (next : Sat K X F (KnR x l :: L)) : Sat K X F (x.R l ++ L) := fun a w G => by
  have h1 : WInv K (MapR x.b5 sE iE (mirrorsM l) :: MapR x.b4 sE iE (metersM l) :: MapR x.b3 sE iE (rulesM l) :: MapR x.b2 ePrefix iE (routesM l) :: MapR x.b1 iE iE (portsM l) :: L) w := G.inv
  have h2 := (h1.perm (L' := MapR x.b2 ePrefix iE (routesM l) :: MapR x.b1 iE iE (portsM l) :: MapR x.b3 sE iE (rulesM l) :: MapR x.b4 sE iE (metersM l) :: MapR x.b5 sE iE (mirrorsM l) :: L) (by
    have : (MapR x.b5 sE iE (mirrorsM l) :: MapR x.b4 sE iE (metersM l) :: MapR x.b3 sE iE (rulesM l) :: MapR x.b2 ePrefix iE (routesM l) :: MapR x.b1 iE iE (portsM l) :: L) = [MapR x.b5 sE iE (mirrorsM l), MapR x.b4 sE iE (metersM l), MapR x.b3 sE iE (rulesM l), MapR x.b2 ePrefix iE (routesM l), MapR x.b1 iE iE (portsM l)] ++ L := rfl
    rw [this]
    refine List.Perm.append_right L (l₁ := [MapR x.b2 ePrefix iE (routesM l), MapR x.b1 iE iE (portsM l), MapR x.b3 sE iE (rulesM l), MapR x.b4 sE iE (metersM l), MapR x.b5 sE iE (mirrorsM l)]) ?_
    generalize MapR x.b5 sE iE (mirrorsM l) = e
    generalize MapR x.b4 sE iE (metersM l) = d
    generalize MapR x.b3 sE iE (rulesM l) = c
    refine List.Perm.trans (List.perm_append_comm (l₁ := [_, _]) (l₂ := [c, d, e])) ?_
    refine List.Perm.trans ?_ (List.Perm.append_right _ (l₁ := [e, d, c]) (l₂ := [e, d, c]) (List.Perm.refl _))
    exact List.Perm.append_right [_, _] (l₁ := [c, d, e]) (l₂ := [e, d, c]) (List.reverse_perm [e, d, c]))).sepIn
  have h3 := (h2.perm (List.Perm.swap _ _ _)).sepIn
  have h4 := (h3.perm (List.Perm.swap _ _ _)).sepIn
  have h5 := (h4.perm (List.Perm.swap _ _ _)).sepIn
  exact next a w (G.world h5)
theorem known_of {K : Ctx} {L : List Res} {x : KB} {l : CL} (hm : KnR x l ∈ L) (w : World) (I : WInv K L w) : KnownAt w x l := by
  obtain ⟨a5, ⟨a4, ⟨a3, ⟨a2, a1, _⟩, _⟩, _⟩, _⟩ := (I.own _ hm).1
  exact ⟨a1, a2, a3, a4, a5⟩
abbrev OR (ob : Nat) (o : OV) (l : List SChange) : Res := Sep (Var ob (ovE nilSl) o 41) (OwnS o.v eChange l 61)
abbrev DR (pb ob : Nat) (o : OV) (l : List SChange) : Res := Sep (Var pb (ovE nilFn) (clo 63 [.pointer (some ⟨ob, 0, none⟩)]) 113) (OR ob o l)
def goneL {α κ : Type} (q : κ → κ → Bool) (f : α → κ) (m : List (κ × Int)) (mk : α → SChange) (l : List α) : List SChange := (l.filter (fun x => (findV q (f x) m).isNone)).map mk
theorem goneL_step {α κ : Type} (q : κ → κ → Bool) (f : α → κ) (m : List (κ × Int)) (mk : α → SChange) (l : List α) (z : α) {i : Int} (h : 0 ≤ i ∧ i < l.length) : goneL q f m mk (l.take (i + 1).toNat) = goneL q f m mk (l.take i.toNat) ++ (if (findV q (f (l.getD i.toNat z)) m).isNone then [mk (l.getD i.toNat z)] else []) := by
  rw [take_snoc l i h.1 h.2 z]
  unfold goneL
  rw [List.filter_append, List.map_append]
  congr 1
  rw [List.filter_cons, List.filter_nil]
  cases (findV q (f (l.getD i.toNat z)) m).isNone <;> simp
theorem goneL_len {α κ : Type} (q : κ → κ → Bool) (f : α → κ) (m : List (κ × Int)) (mk : α → SChange) (l : List α) : (goneL q f m mk l).length ≤ l.length := by
  unfold goneL
  rw [List.length_map]
  exact List.length_filter_le _ _
def chPort (k : Int) (x : Int) : SChange := { eChange.zero with kind := k, port := x }
def chRoute (k : Int) (x : SRoute) : SChange := { eChange.zero with kind := k, route := x }
def chMeter (k : Int) (x : SMeterConf) : SChange := { eChange.zero with kind := k, meter := x }
def chMirror (k : Int) (x : SMirrorConf) : SChange := { eChange.zero with kind := k, mirror := x }
def onlyR (x : SRoute) : SRoute := { eRoute.zero with to_ := x.to_ }
def onlyM (x : SMeterConf) : SMeterConf := { eMeterConf.zero with name := x.name }
def onlyX (x : SMirrorConf) : SMirrorConf := { eMirrorConf.zero with name := x.name }
def chRules (x : OV) : SChange := { eChange.zero with kind := 9, rules := x }
def chDefault (x : Int) : SChange := { eChange.zero with kind := 10, default := x }
theorem ty41 : TyOK Tryz.prog 41 (ovE nilSl) := TyOK.mk' zk zk
theorem ty61 : TyOK Tryz.prog 61 eChange := TyOK.mk' zk zk
theorem z61 : (Tryz.prog.info? 61).bind (·.zero) = some (eChange.val eChange.zero) := by kernel_rfl
theorem zb61 : (Tryz.prog.info? 61).map (fun i => (i.zero, i.bytes)) = some (some (eChange.val eChange.zero), 160) := by kernel_rfl
theorem zs61 : (eChange.val eChange.zero).cells.size = eChange.size := by rw [Enc.cells_val, List.size_toArray, Enc.len]
theorem put_ok (c : SChange) (ob : Nat) (o : OV) (l : List SChange) (w : World) (h : At (OR ob o l) w) (hl : l.length < 100000) : Calls Tryz.prog 63 #[eChange.val c, .pointer (some ⟨ob, 0, none⟩)] w (RetR w (OR ob o l) (fun _ : OV => True) (fun _ => .tuple #[]) (fun o2 => OR ob o2 (l ++ [c]))) := by
  refine enter (OR ob o l).foot 7 [OR ob o l] Tryz.func63 rfl rfl (Nat.le_of_ble_eq_true rfl) (start_at h) ?_
  refine sepOut Rem.head ?_
  refine sg (cons (box (E := eChange) (.t rfl) (fun b1 => ?_)))
  refine nP (region (co (Ev.ldv ty41 (.t rfl) (Lens.id _)) ?_))
  refine co (Ev.ldv ty61 (.t rfl) (Lens.id _)) ?_
  refine cons (buildSlice (E := eChange) Tryz.underlying41 ty61 z61 (.cons (.t rfl) .nil) rfl rfl (fun v2 => ?_))
  refine cons (app (E := eChange) Tryz.underlying41 ty61 zb61 zs61 (.t rfl) (.t rfl) (fun v3 => ?_) (hby := ⟨by (show _ ≤ 9223372036854775807); simp only [List.length_cons, List.length_nil]; omega, by simp only [List.length_cons, List.length_nil]; omega⟩))
  refine cons (stv ty41 (Lens.id _) (.t rfl) (.t rfl) ?_)
  refine nil (done' rfl .nil (fun w I => ?_))
  exact retR (r' := fun o2 => OR ob o2 (l ++ [c])) _ trivial rfl (List.mem_singleton_self _) w (WInv.sepIn (I.sub zs))
theorem en63 : Gx.Enters Tryz.prog 63 := Gx.Enters.mk' zk
theorem ty113 : TyOK Tryz.prog 113 (ovE nilFn) := TyOK.mk' zk zk
theorem tell2 (pb ob : Nat) (x : Int) (o : OV) (l : List SChange) (w : World) (h : At (DR pb ob o l) w) (hl : l.length < 100000) : Calls Tryz.prog 66 #[iE.val x, .pointer (some ⟨pb, 0, none⟩)] w (RetR w (DR pb ob o l) (fun _ : OV => True) (fun _ => .tuple #[]) (fun o2 => DR pb ob o2 (l ++ [chPort 1 x]))) := by
  refine enter (DR pb ob o l).foot 7 [DR pb ob o l] Tryz.func66 rfl rfl (Nat.le_of_ble_eq_true rfl) (start_at h) ?_
  refine sepOut Rem.head ?_
  refine region (co (Ev.ldv ty113 (.t rfl) (Lens.id _)) ?_)
  refine mv rfl (co (Ev.buildS (fs := _) (places := [(0, 1), (1, 1), (2, 19), (21, 4), (25, 3), (28, 1), (29, 1)]) z61 rfl Tryz.underlying61 zk (.cons (.c (v := I 1) rfl) (.cons (.t rfl) .nil)) (Fills.cons SChange.l_kind rfl (Fills.cons SChange.l_port rfl Fills.nil))) ?_)
  refine cons (callcr (X := OV) (r := OR ob o l) (r' := fun o2 => OR ob o2 (l ++ [chPort 1 x])) (fun _ => True) (fun _ => .tuple #[]) (fun _ => zu) (.t rfl) en63 (.cons (.t rfl) .nil) (fun w I => put_ok (chPort 1 x) ob o l w (am w I) hl) (fun o3 _ => ?_))
  refine nil (done' rfl .nil (fun w I => ?_))
  exact retR (r' := fun o2 => DR pb ob o2 (l ++ [chPort 1 x])) _ trivial rfl (List.mem_singleton_self _) w (WInv.sepIn (I.subP (by repeat first | exact SubP.nil | refine SubP.cons zr ?_)))
theorem tell2_at (pb ob : Nat) : TellL Tryz.prog 66 [.pointer (some ⟨pb, 0, none⟩)] 100000 iE (DR pb ob) (fun _ => True) (fun x => chPort 1 x) := fun x o l w _ hl h => tell2 pb ob x o l w h hl
theorem tell3 (pb ob : Nat) (x : SMeterConf) (o : OV) (l : List SChange) (w : World) (h : At (DR pb ob o l) w) (hl : l.length < 100000) : Calls Tryz.prog 70 #[eMeterConf.val x, .pointer (some ⟨pb, 0, none⟩)] w (RetR w (DR pb ob o l) (fun _ : OV => True) (fun _ => .tuple #[]) (fun o2 => DR pb ob o2 (l ++ [chMeter 5 x]))) := by
  refine enter (DR pb ob o l).foot 7 [DR pb ob o l] Tryz.func70 rfl rfl (Nat.le_of_ble_eq_true rfl) (start_at h) ?_
  refine sepOut Rem.head ?_
  refine sg (cons (box (E := eMeterConf) (.t rfl) (fun b1 => ?_)))
  refine nP (region (co (Ev.ldv ty113 (.t rfl) (Lens.id _)) ?_))
  refine co (Ev.ldx x ty57 (.t rfl) (Lens.id _)) ?_
  refine co (Ev.buildS (fs := _) (places := [(0, 1), (1, 1), (2, 19), (21, 4), (25, 3), (28, 1), (29, 1)]) z61 rfl Tryz.underlying61 zk (.cons (.c (v := I 5) rfl) (.cons (.t rfl) .nil)) (Fills.cons SChange.l_kind rfl (Fills.cons SChange.l_meter rfl Fills.nil))) ?_
  refine cons (callcr (X := OV) (r := OR ob o l) (r' := fun o2 => OR ob o2 (l ++ [chMeter 5 x])) (fun _ => True) (fun _ => .tuple #[]) (fun _ => zu) (.t rfl) en63 (.cons (.t rfl) .nil) (fun w I => put_ok (chMeter 5 x) ob o l w (am w I) hl) (fun o3 _ => ?_))
  refine nil (done' rfl .nil (fun w I => ?_))
  exact retR (r' := fun o2 => DR pb ob o2 (l ++ [chMeter 5 x])) _ trivial rfl (List.mem_singleton_self _) w (WInv.sepIn (I.subP (by repeat first | exact SubP.nil | refine SubP.cons zr ?_)))
theorem tell3_at (pb ob : Nat) : TellL Tryz.prog 70 [.pointer (some ⟨pb, 0, none⟩)] 100000 eMeterConf (DR pb ob) (fun _ => True) (fun x => chMeter 5 x) := fun x o l w _ hl h => tell3 pb ob x o l w h hl
theorem tell4 (pb ob : Nat) (x : SMirrorConf) (o : OV) (l : List SChange) (w : World) (h : At (DR pb ob o l) w) (hl : l.length < 100000) : Calls Tryz.prog 74 #[eMirrorConf.val x, .pointer (some ⟨pb, 0, none⟩)] w (RetR w (DR pb ob o l) (fun _ : OV => True) (fun _ => .tuple #[]) (fun o2 => DR pb ob o2 (l ++ [chMirror 7 x]))) := by
  refine enter (DR pb ob o l).foot 7 [DR pb ob o l] Tryz.func74 rfl rfl (Nat.le_of_ble_eq_true rfl) (start_at h) ?_
  refine sepOut Rem.head ?_
  refine sg (cons (box (E := eMirrorConf) (.t rfl) (fun b1 => ?_)))
  refine nP (region (co (Ev.ldv ty113 (.t rfl) (Lens.id _)) ?_))
  refine co (Ev.ldx x ty59 (.t rfl) (Lens.id _)) ?_
  refine co (Ev.buildS (fs := _) (places := [(0, 1), (1, 1), (2, 19), (21, 4), (25, 3), (28, 1), (29, 1)]) z61 rfl Tryz.underlying61 zk (.cons (.c (v := I 7) rfl) (.cons (.t rfl) .nil)) (Fills.cons SChange.l_kind rfl (Fills.cons SChange.l_mirror rfl Fills.nil))) ?_
  refine cons (callcr (X := OV) (r := OR ob o l) (r' := fun o2 => OR ob o2 (l ++ [chMirror 7 x])) (fun _ => True) (fun _ => .tuple #[]) (fun _ => zu) (.t rfl) en63 (.cons (.t rfl) .nil) (fun w I => put_ok (chMirror 7 x) ob o l w (am w I) hl) (fun o3 _ => ?_))
  refine nil (done' rfl .nil (fun w I => ?_))
  exact retR (r' := fun o2 => DR pb ob o2 (l ++ [chMirror 7 x])) _ trivial rfl (List.mem_singleton_self _) w (WInv.sepIn (I.subP (by repeat first | exact SubP.nil | refine SubP.cons zr ?_)))
theorem tell4_at (pb ob : Nat) : TellL Tryz.prog 74 [.pointer (some ⟨pb, 0, none⟩)] 100000 eMirrorConf (DR pb ob) (fun _ => True) (fun x => chMirror 7 x) := fun x o l w _ hl h => tell4 pb ob x o l w h hl
theorem tell5 (pb ob : Nat) (x : SRoute) (o : OV) (l : List SChange) (w : World) (h : At (DR pb ob o l) w) (hl : l.length < 100000) : Calls Tryz.prog 78 #[eRoute.val x, .pointer (some ⟨pb, 0, none⟩)] w (RetR w (DR pb ob o l) (fun _ : OV => True) (fun _ => .tuple #[]) (fun o2 => DR pb ob o2 (l ++ [chRoute 3 x]))) := by
  refine enter (DR pb ob o l).foot 7 [DR pb ob o l] Tryz.func78 rfl rfl (Nat.le_of_ble_eq_true rfl) (start_at h) ?_
  refine sepOut Rem.head ?_
  refine sg (cons (box (E := eRoute) (.t rfl) (fun b1 => ?_)))
  refine nP (region (co (Ev.ldv ty113 (.t rfl) (Lens.id _)) ?_))
  refine co (Ev.ldx x ty52 (.t rfl) (Lens.id _)) ?_
  refine co (Ev.buildS (fs := _) (places := [(0, 1), (1, 1), (2, 19), (21, 4), (25, 3), (28, 1), (29, 1)]) z61 rfl Tryz.underlying61 zk (.cons (.c (v := I 3) rfl) (.cons (.t rfl) .nil)) (Fills.cons SChange.l_kind rfl (Fills.cons SChange.l_route rfl Fills.nil))) ?_
  refine cons (callcr (X := OV) (r := OR ob o l) (r' := fun o2 => OR ob o2 (l ++ [chRoute 3 x])) (fun _ => True) (fun _ => .tuple #[]) (fun _ => zu) (.t rfl) en63 (.cons (.t rfl) .nil) (fun w I => put_ok (chRoute 3 x) ob o l w (am w I) hl) (fun o3 _ => ?_))
  refine nil (done' rfl .nil (fun w I => ?_))
  exact retR (r' := fun o2 => DR pb ob o2 (l ++ [chRoute 3 x])) _ trivial rfl (List.mem_singleton_self _) w (WInv.sepIn (I.subP (by repeat first | exact SubP.nil | refine SubP.cons zr ?_)))
theorem tell5_at (pb ob : Nat) : TellL Tryz.prog 78 [.pointer (some ⟨pb, 0, none⟩)] 100000 eRoute (DR pb ob) (fun _ => True) (fun x => chRoute 3 x) := fun x o l w _ hl h => tell5 pb ob x o l w h hl
theorem tell7 (pb ob : Nat) (x : SRoute) (o : OV) (l : List SChange) (w : World) (h : At (DR pb ob o l) w) (hl : l.length < 100000) : Calls Tryz.prog 81 #[eRoute.val x, .pointer (some ⟨pb, 0, none⟩)] w (RetR w (DR pb ob o l) (fun _ : OV => True) (fun _ => .tuple #[]) (fun o2 => DR pb ob o2 (l ++ [chRoute 4 (onlyR x)]))) := by
  refine enter (DR pb ob o l).foot 9 [DR pb ob o l] Tryz.func81 rfl rfl (Nat.le_of_ble_eq_true rfl) (start_at h) ?_
  refine sepOut Rem.head ?_
  refine sg (cons (box (E := eRoute) (.t rfl) (fun b1 => ?_)))
  refine nP (region (co (Ev.ldv ty113 (.t rfl) (Lens.id _)) ?_))
  refine co (fA 0 (.t rfl)) ?_
  refine co (Ev.ldx x.to_ ty50 (.t rfl) SRoute.l_to_) ?_
  refine co (Ev.buildS (fs := _) (places := [(0, 18), (18, 1)]) z52 rfl Tryz.underlying52 zk (.cons (.t rfl) .nil) (Fills.cons SRoute.l_to_ rfl Fills.nil)) ?_
  refine co (Ev.buildS (fs := _) (places := [(0, 1), (1, 1), (2, 19), (21, 4), (25, 3), (28, 1), (29, 1)]) z61 rfl Tryz.underlying61 zk (.cons (.c (v := I 4) rfl) (.cons (.t rfl) .nil)) (Fills.cons SChange.l_kind rfl (Fills.cons SChange.l_route rfl Fills.nil))) ?_
  refine cons (callcr (X := OV) (r := OR ob o l) (r' := fun o2 => OR ob o2 (l ++ [chRoute 4 (onlyR x)])) (fun _ => True) (fun _ => .tuple #[]) (fun _ => zu) (.t rfl) en63 (.cons (.t rfl) .nil) (fun w I => put_ok (chRoute 4 (onlyR x)) ob o l w (am w I) hl) (fun o3 _ => ?_))
  refine nil (done' rfl .nil (fun w I => ?_))
  exact retR (r' := fun o2 => DR pb ob o2 (l ++ [chRoute 4 (onlyR x)])) _ trivial rfl (List.mem_singleton_self _) w (WInv.sepIn (I.subP (by repeat first | exact SubP.nil | refine SubP.cons zr ?_)))
theorem tell7_at (pb ob : Nat) : TellL Tryz.prog 81 [.pointer (some ⟨pb, 0, none⟩)] 100000 eRoute (DR pb ob) (fun _ => True) (fun x => chRoute 4 (onlyR x)) := fun x o l w _ hl h => tell7 pb ob x o l w h hl
theorem tell9 (pb ob : Nat) (x : SMeterConf) (o : OV) (l : List SChange) (w : World) (h : At (DR pb ob o l) w) (hl : l.length < 100000) : Calls Tryz.prog 84 #[eMeterConf.val x, .pointer (some ⟨pb, 0, none⟩)] w (RetR w (DR pb ob o l) (fun _ : OV => True) (fun _ => .tuple #[]) (fun o2 => DR pb ob o2 (l ++ [chMeter 6 (onlyM x)]))) := by
  refine enter (DR pb ob o l).foot 9 [DR pb ob o l] Tryz.func84 rfl rfl (Nat.le_of_ble_eq_true rfl) (start_at h) ?_
  refine sepOut Rem.head ?_
  refine sg (cons (box (E := eMeterConf) (.t rfl) (fun b1 => ?_)))
  refine nP (region (co (Ev.ldv ty113 (.t rfl) (Lens.id _)) ?_))
  refine co (fA 0 (.t rfl)) ?_
  refine co (Ev.ldx x.name ty9 (.t rfl) SMeterConf.l_name) ?_
  refine co (Ev.buildS (fs := _) (places := [(0, 1), (1, 3)]) z57 rfl Tryz.underlying57 zk (.cons (.t rfl) .nil) (Fills.cons SMeterConf.l_name rfl Fills.nil)) ?_
  refine co (Ev.buildS (fs := _) (places := [(0, 1), (1, 1), (2, 19), (21, 4), (25, 3), (28, 1), (29, 1)]) z61 rfl Tryz.underlying61 zk (.cons (.c (v := I 6) rfl) (.cons (.t rfl) .nil)) (Fills.cons SChange.l_kind rfl (Fills.cons SChange.l_meter rfl Fills.nil))) ?_
  refine cons (callcr (X := OV) (r := OR ob o l) (r' := fun o2 => OR ob o2 (l ++ [chMeter 6 (onlyM x)])) (fun _ => True) (fun _ => .tuple #[]) (fun _ => zu) (.t rfl) en63 (.cons (.t rfl) .nil) (fun w I => put_ok (chMeter 6 (onlyM x)) ob o l w (am w I) hl) (fun o3 _ => ?_))
  refine nil (done' rfl .nil (fun w I => ?_))
  exact retR (r' := fun o2 => DR pb ob o2 (l ++ [chMeter 6 (onlyM x)])) _ trivial rfl (List.mem_singleton_self _) w (WInv.sepIn (I.subP (by repeat first | exact SubP.nil | refine SubP.cons zr ?_)))
theorem tell9_at (pb ob : Nat) : TellL Tryz.prog 84 [.pointer (some ⟨pb, 0, none⟩)] 100000 eMeterConf (DR pb ob) (fun _ => True) (fun x => chMeter 6 (onlyM x)) := fun x o l w _ hl h => tell9 pb ob x o l w h hl
theorem tell11 (pb ob : Nat) (x : SMirrorConf) (o : OV) (l : List SChange) (w : World) (h : At (DR pb ob o l) w) (hl : l.length < 100000) : Calls Tryz.prog 87 #[eMirrorConf.val x, .pointer (some ⟨pb, 0, none⟩)] w (RetR w (DR pb ob o l) (fun _ : OV => True) (fun _ => .tuple #[]) (fun o2 => DR pb ob o2 (l ++ [chMirror 8 (onlyX x)]))) := by
  refine enter (DR pb ob o l).foot 9 [DR pb ob o l] Tryz.func87 rfl rfl (Nat.le_of_ble_eq_true rfl) (start_at h) ?_
  refine sepOut Rem.head ?_
  refine sg (cons (box (E := eMirrorConf) (.t rfl) (fun b1 => ?_)))
  refine nP (region (co (Ev.ldv ty113 (.t rfl) (Lens.id _)) ?_))
  refine co (fA 0 (.t rfl)) ?_
  refine co (Ev.ldx x.name ty9 (.t rfl) SMirrorConf.l_name) ?_
  refine co (Ev.buildS (fs := _) (places := [(0, 1), (1, 1), (2, 1)]) z59 rfl Tryz.underlying59 zk (.cons (.t rfl) .nil) (Fills.cons SMirrorConf.l_name rfl Fills.nil)) ?_
  refine co (Ev.buildS (fs := _) (places := [(0, 1), (1, 1), (2, 19), (21, 4), (25, 3), (28, 1), (29, 1)]) z61 rfl Tryz.underlying61 zk (.cons (.c (v := I 8) rfl) (.cons (.t rfl) .nil)) (Fills.cons SChange.l_kind rfl (Fills.cons SChange.l_mirror rfl Fills.nil))) ?_
  refine cons (callcr (X := OV) (r := OR ob o l) (r' := fun o2 => OR ob o2 (l ++ [chMirror 8 (onlyX x)])) (fun _ => True) (fun _ => .tuple #[]) (fun _ => zu) (.t rfl) en63 (.cons (.t rfl) .nil) (fun w I => put_ok (chMirror 8 (onlyX x)) ob o l w (am w I) hl) (fun o3 _ => ?_))
  refine nil (done' rfl .nil (fun w I => ?_))
  exact retR (r' := fun o2 => DR pb ob o2 (l ++ [chMirror 8 (onlyX x)])) _ trivial rfl (List.mem_singleton_self _) w (WInv.sepIn (I.subP (by repeat first | exact SubP.nil | refine SubP.cons zr ?_)))
theorem tell11_at (pb ob : Nat) : TellL Tryz.prog 87 [.pointer (some ⟨pb, 0, none⟩)] 100000 eMirrorConf (DR pb ob) (fun _ => True) (fun x => chMirror 8 (onlyX x)) := fun x o l w _ hl h => tell11 pb ob x o l w h hl
theorem tell12 (pb ob : Nat) (x : Int) (o : OV) (l : List SChange) (w : World) (h : At (DR pb ob o l) w) (hl : l.length < 100000) : Calls Tryz.prog 88 #[iE.val x, .pointer (some ⟨pb, 0, none⟩)] w (RetR w (DR pb ob o l) (fun _ : OV => True) (fun _ => .tuple #[]) (fun o2 => DR pb ob o2 (l ++ [chPort 2 x]))) := by
  refine enter (DR pb ob o l).foot 7 [DR pb ob o l] Tryz.func88 rfl rfl (Nat.le_of_ble_eq_true rfl) (start_at h) ?_
  refine sepOut Rem.head ?_
  refine region (co (Ev.ldv ty113 (.t rfl) (Lens.id _)) ?_)
  refine mv rfl (co (Ev.buildS (fs := _) (places := [(0, 1), (1, 1), (2, 19), (21, 4), (25, 3), (28, 1), (29, 1)]) z61 rfl Tryz.underlying61 zk (.cons (.c (v := I 2) rfl) (.cons (.t rfl) .nil)) (Fills.cons SChange.l_kind rfl (Fills.cons SChange.l_port rfl Fills.nil))) ?_)
  refine cons (callcr (X := OV) (r := OR ob o l) (r' := fun o2 => OR ob o2 (l ++ [chPort 2 x])) (fun _ => True) (fun _ => .tuple #[]) (fun _ => zu) (.t rfl) en63 (.cons (.t rfl) .nil) (fun w I => put_ok (chPort 2 x) ob o l w (am w I) hl) (fun o3 _ => ?_))
  refine nil (done' rfl .nil (fun w I => ?_))
  exact retR (r' := fun o2 => DR pb ob o2 (l ++ [chPort 2 x])) _ trivial rfl (List.mem_singleton_self _) w (WInv.sepIn (I.subP (by repeat first | exact SubP.nil | refine SubP.cons zr ?_)))
theorem tell12_at (pb ob : Nat) : TellL Tryz.prog 88 [.pointer (some ⟨pb, 0, none⟩)] 100000 iE (DR pb ob) (fun _ => True) (fun x => chPort 2 x) := fun x o l w _ hl h => tell12 pb ob x o l w h hl
theorem its_i (a : Int) (w : World) : Calls Tryz.prog 65 #[iE.val a] w (RetV w (iE.val (a))) := by
  refine en0 4 Tryz.func65 ?_
  refine sg (co (Ev.assign (.c (v := I 0) rfl)) ?_)
  refine nP (sg (mv rfl (asn rfl (nP (ret (done rfl (.tmp rfl .nil) (retE ?_)))))))
  rfl
theorem its_i_at (M : Nat → Prop) (w : World) : FnAt Tryz.prog 65 [] M w iE iE (fun _ => True) (fun a => a) := fun a w _ _ => its_i a w
theorem its_m (a : SMeterConf) (w : World) : Calls Tryz.prog 69 #[eMeterConf.val a] w (RetV w (eMeterConf.val (a))) := by
  refine en0 4 Tryz.func69 ?_
  refine sg (cons (box (E := eMeterConf) (.t rfl) (fun b1 => ?_)))
  refine cons (alloc z57 (fun b2 => ?_))
  refine nP (sg (co (Ev.ldx a ty57 (.t rfl) (Lens.id _)) ?_))
  refine cons (stv ty57 (Lens.id _) (.t rfl) (.t rfl) ?_)
  refine nP (ret (done rfl (.cell rfl (fun w I => run_loadVar_pts ty57 (ptsVar zm (Lens.id _) w I)) .nil) (retE ?_)))
  rfl
theorem its_m_at (M : Nat → Prop) (w : World) : FnAt Tryz.prog 69 [] M w eMeterConf eMeterConf (fun _ => True) (fun a => a) := fun a w _ _ => its_m a w
theorem its_x (a : SMirrorConf) (w : World) : Calls Tryz.prog 73 #[eMirrorConf.val a] w (RetV w (eMirrorConf.val (a))) := by
  refine en0 4 Tryz.func73 ?_
  refine sg (cons (box (E := eMirrorConf) (.t rfl) (fun b1 => ?_)))
  refine cons (alloc z59 (fun b2 => ?_))
  refine nP (sg (co (Ev.ldx a ty59 (.t rfl) (Lens.id _)) ?_))
  refine cons (stv ty59 (Lens.id _) (.t rfl) (.t rfl) ?_)
  refine nP (ret (done rfl (.cell rfl (fun w I => run_loadVar_pts ty59 (ptsVar zm (Lens.id _) w I)) .nil) (retE ?_)))
  rfl
theorem its_x_at (M : Nat → Prop) (w : World) : FnAt Tryz.prog 73 [] M w eMirrorConf eMirrorConf (fun _ => True) (fun a => a) := fun a w _ _ => its_x a w
theorem its_r (a : SRoute) (w : World) : Calls Tryz.prog 77 #[eRoute.val a] w (RetV w (eRoute.val (a))) := by
  refine en0 4 Tryz.func77 ?_
  refine sg (cons (box (E := eRoute) (.t rfl) (fun b1 => ?_)))
  refine cons (alloc z52 (fun b2 => ?_))
  refine nP (sg (co (Ev.ldx a ty52 (.t rfl) (Lens.id _)) ?_))
  refine cons (stv ty52 (Lens.id _) (.t rfl) (.t rfl) ?_)
  refine nP (ret (done rfl (.cell rfl (fun w I => run_loadVar_pts ty52 (ptsVar zm (Lens.id _) w I)) .nil) (retE ?_)))
  rfl
theorem its_r_at (M : Nat → Prop) (w : World) : FnAt Tryz.prog 77 [] M w eRoute eRoute (fun _ => True) (fun a => a) := fun a w _ _ => its_r a w
theorem key6 (a : SRoute) (w : World) : Calls Tryz.prog 80 #[eRoute.val a] w (RetV w (ePrefix.val (a.to_))) := by
  refine en0 5 Tryz.func80 ?_
  refine sg (cons (box (E := eRoute) (.t rfl) (fun b1 => ?_)))
  refine cons (alloc z50 (fun b2 => ?_))
  refine nP (sg (co (fA 0 (.t rfl)) ?_))
  refine co (Ev.ldx a.to_ ty50 (.t rfl) SRoute.l_to_) ?_
  refine cons (stv ty50 (Lens.id _) (.t rfl) (.t rfl) ?_)
  refine nP (ret (done rfl (.cell rfl (fun w I => run_loadVar_pts ty50 (ptsVar zm (Lens.id _) w I)) .nil) (retE ?_)))
  rfl
theorem key6_at (M : Nat → Prop) (w : World) : FnAt Tryz.prog 80 [] M w eRoute ePrefix (fun _ => True) (fun a => a.to_) := fun a w _ _ => key6 a w
theorem key8 (a : SMeterConf) (w : World) : Calls Tryz.prog 83 #[eMeterConf.val a] w (RetV w (sE.val (a.name))) := by
  refine en0 5 Tryz.func83 ?_
  refine sg (cons (box (E := eMeterConf) (.t rfl) (fun b1 => ?_)))
  refine co (Ev.assign (.c (v := (Go.Value.string (ByteArray.mk #[]))) rfl)) ?_
  refine nP (sg (co (fA 0 (.t rfl)) ?_))
  refine co (Ev.ldx a.name ty9 (.t rfl) SMeterConf.l_name) ?_
  refine asn rfl (nP (ret (done rfl (.tmp rfl .nil) (retE ?_))))
  rfl
theorem key8_at (M : Nat → Prop) (w : World) : FnAt Tryz.prog 83 [] M w eMeterConf sE (fun _ => True) (fun a => a.name) := fun a w _ _ => key8 a w
theorem key10 (a : SMirrorConf) (w : World) : Calls Tryz.prog 86 #[eMirrorConf.val a] w (RetV w (sE.val (a.name))) := by
  refine en0 5 Tryz.func86 ?_
  refine sg (cons (box (E := eMirrorConf) (.t rfl) (fun b1 => ?_)))
  refine co (Ev.assign (.c (v := (Go.Value.string (ByteArray.mk #[]))) rfl)) ?_
  refine nP (sg (co (fA 0 (.t rfl)) ?_))
  refine co (Ev.ldx a.name ty9 (.t rfl) SMirrorConf.l_name) ?_
  refine asn rfl (nP (ret (done rfl (.tmp rfl .nil) (retE ?_))))
  rfl
theorem key10_at (M : Nat → Prop) (w : World) : FnAt Tryz.prog 86 [] M w eMirrorConf sE (fun _ => True) (fun a => a.name) := fun a w _ _ => key10 a w
theorem gone_3_3 (fk ft : Nat) (cap : List Value) (kf : Int → Int) (mk : Int → SChange) (b : Nat) (m : List (Int × Int)) (S0 : OV → List SChange → Res) (o : OV) (cs : List SChange) (u : Value) (xs : List Int) (w : World) (hek : Gx.Enters Tryz.prog fk) (het : Gx.Enters Tryz.prog ft) (h : At (S0 o cs) w) (hxs : ∀ w1, Keeps (S0 o cs).foot w w1 → IsSl iE w1 u xs) (hm : ∀ w1, Keeps (S0 o cs).foot w w1 → MapAt w1 b iE iE m) (hk : FnAt Tryz.prog fk [] (S0 o cs).foot w iE iE (fun _ => True) kf) (ht : TellL Tryz.prog ft cap 100000 iE S0 (fun _ => True) mk) (hn : cs.length + xs.length < 100000) : Calls Tryz.prog 64 #[u, .map (some b), (clo fk []).v, (clo ft cap).v] w (RetR w (S0 o cs) (fun _ : OV => True) (fun _ => .tuple #[]) (fun o2 => S0 o2 (cs ++ goneL eqd kf m mk xs))) := by
  have hle := (hxs w (Keeps.refl _ _)).le
  refine enter (S0 o cs).foot 32 [S0 o cs] Tryz.func64 rfl rfl (Nat.le_of_ble_eq_true rfl) (start_at h) ?_
  refine sg (mv rfl (co (Ev.len Tryz.underlying22 (.t rfl) (fun w I => hxs w I.keeps)) ?_))
  refine co (Ev.move (.c (v := I 0) rfl)) ?_
  refine nP (block (lp (X := Int × OV) (fun x : Int × OV => (0 ≤ x.1 ∧ x.1 ≤ xs.length)) (fun x : Int × OV => [(1, true, .map (some b)), (2, true, (clo fk []).v), (3, true, (clo ft cap).v), (12, true, u), (13, true, I xs.length), (14, true, I x.1)]) (fun x : Int × OV => [S0 x.2 (cs ++ goneL eqd kf m mk (xs.take x.1.toNat))]) (fun x : Int × OV => ((xs.length : Int) - x.1).toNat) (0, o) ?_ (fun x hx => ?_) (hL := (by simp only [show (0 : Int).toNat = 0 from rfl, List.take_zero, goneL, List.filter_nil, List.map_nil, List.append_nil]; repeat first | exact sR | exact sN | apply sC | apply sS | apply sA))))
  · omega
  obtain ⟨i, p⟩ := x
  have hi : 0 ≤ i ∧ i ≤ xs.length := hx
  clear hx
  show Sat _ _ [(1, true, .map (some b)), (2, true, (clo fk []).v), (3, true, (clo ft cap).v), (12, true, u), (13, true, I xs.length), (14, true, I i)] [S0 p (cs ++ goneL eqd kf m mk (xs.take i.toNat))]
  refine sg (co (Ev.lss_i (.t rfl) (.t rfl)) ?_)
  refine nP (seq ?_)
  first | refine condD rfl (fun h0 => ?_) (fun h0 => ?_) | refine cond rfl (fun h0 => ?_) (fun h0 => ?_)
  · try simp only [nb] at h0
    refine skip (pN (seq (block (sg (co (Ev.indexAddr Tryz.underlying22 ty3 (.t rfl) (.t rfl) (fun w I => hxs w I.keeps) (fun _ => zo)) ?_)))))
    refine co (Ev.loadS0 ty3 (.t rfl) (fun w I => hxs w I.keeps) (fun _ => zo)) ?_
    refine asn rfl (nP (sg ?_))
    have hst := goneL_step eqd kf m mk xs iE.zero (i := i) (by omega)
    refine mv rfl (mv rfl (mv rfl (cons (callcv (.t rfl) hek (.cons (.t rfl) .nil) (fun w I => hk (xs.getD i.toNat iE.zero) w trivial I.keeps) ?_))))
    refine co (Ev.lookupT Tryz.underlying80 Tryz.underlying3 key3 z3 (.t rfl) (.t rfl) (fun _ => (fun w I => hm w I.keeps))) ?_
    refine mv rfl (co (Ev.extract (.t rfl) rfl) (co (Ev.extract (.t rfl) rfl) (asn rfl (asn rfl (nP (sg (mv rfl (co (Ev.not (.t rfl)) ?_))))))))
    refine nP ?_
    first | refine condD rfl (fun h1 => ?_) (fun h1 => ?_) | refine cond rfl (fun h1 => ?_) (fun h1 => ?_)
    · try simp only [nb] at h1
      have hq : (findV eqd (kf (xs.getD i.toNat iE.zero)) m).isNone = true := by simpa using h1
      refine region (mv rfl (mv rfl (cons (callcr (X := OV) (r := S0 p (cs ++ goneL eqd kf m mk (xs.take i.toNat))) (r' := fun o2 => S0 o2 (cs ++ goneL eqd kf m mk (xs.take i.toNat) ++ [mk (xs.getD i.toNat iE.zero)])) (fun _ => True) (fun _ => .tuple #[]) (fun _ => zu) (.t rfl) het (.cons (.t rfl) .nil) (fun w I => ht (xs.getD i.toNat iE.zero) p _ w trivial (by have := goneL_len eqd kf m mk (xs.take i.toNat); simp only [List.length_append, List.length_take] at this ⊢; omega) (am w I)) (fun o3 _ => ?_)))))
      refine nil (bN (pN (region (co (Ev.add_i (.t rfl) (.c (v := I 1) rfl) (fun _ => zo)) ?_))))
      refine mv rfl (nP (nx (X := Int × OV) (i + 1, _) ?_ ?_ (hL := (by rw [hst]; (first | rw [if_pos hq, ← List.append_assoc] | rw [if_neg hq, List.append_nil]); repeat first | exact sR | exact sN | apply sC | apply sS | apply sA))))
      · try dsimp only
        omega
      · try dsimp only
        omega
    · try simp only [nb] at h1
      have hq : ¬ (findV eqd (kf (xs.getD i.toNat iE.zero)) m).isNone = true := fun e => by
        rw [Option.isNone_iff_eq_none] at e
        rw [e] at h1
        simp at h1
      refine skip (bN (pN (region (co (Ev.add_i (.t rfl) (.c (v := I 1) rfl) (fun _ => zo)) ?_))))
      refine mv rfl (nP (nx (X := Int × OV) (i + 1, _) ?_ ?_ (hL := (by rw [hst]; (first | rw [if_pos hq, ← List.append_assoc] | rw [if_neg hq, List.append_nil]); repeat first | exact sR | exact sN | apply sC | apply sS | apply sA))))
      · try dsimp only
        omega
      · try dsimp only
        omega
  · try simp only [nb] at h0
    refine exit (pX (pX (bX (done' rfl .nil (fun w I => ?_)))))
    have et : xs.take i.toNat = xs := List.take_of_length_le (by omega)
    rw [et] at I
    exact retR (r' := fun o2 => S0 o2 (cs ++ goneL eqd kf m mk xs)) _ trivial rfl (List.mem_singleton_self _) w (I.sub zs)
theorem gone_57_57 (fk ft : Nat) (cap : List Value) (kf : SMeterConf → SMeterConf) (mk : SMeterConf → SChange) (b : Nat) (m : List (SMeterConf × Int)) (S0 : OV → List SChange → Res) (o : OV) (cs : List SChange) (u : Value) (xs : List SMeterConf) (w : World) (hek : Gx.Enters Tryz.prog fk) (het : Gx.Enters Tryz.prog ft) (h : At (S0 o cs) w) (hxs : ∀ w1, Keeps (S0 o cs).foot w w1 → IsSl eMeterConf w1 u xs) (hm : ∀ w1, Keeps (S0 o cs).foot w w1 → MapAt w1 b eMeterConf iE m) (hk : FnAt Tryz.prog fk [] (S0 o cs).foot w eMeterConf eMeterConf (fun _ => True) kf) (ht : TellL Tryz.prog ft cap 100000 eMeterConf S0 (fun _ => True) mk) (hn : cs.length + xs.length < 100000) : Calls Tryz.prog 67 #[u, .map (some b), (clo fk []).v, (clo ft cap).v] w (RetR w (S0 o cs) (fun _ : OV => True) (fun _ => .tuple #[]) (fun o2 => S0 o2 (cs ++ goneL SMeterConf.eqb kf m mk xs))) := by
  have hle := (hxs w (Keeps.refl _ _)).le
  refine enter (S0 o cs).foot 32 [S0 o cs] Tryz.func67 rfl rfl (Nat.le_of_ble_eq_true rfl) (start_at h) ?_
  refine sg (mv rfl (co (Ev.len Tryz.underlying25 (.t rfl) (fun w I => hxs w I.keeps)) ?_))
  refine co (Ev.move (.c (v := I 0) rfl)) ?_
  refine nP (block (lp (X := Int × OV) (fun x : Int × OV => (0 ≤ x.1 ∧ x.1 ≤ xs.length)) (fun x : Int × OV => [(1, true, .map (some b)), (2, true, (clo fk []).v), (3, true, (clo ft cap).v), (12, true, u), (13, true, I xs.length), (14, true, I x.1)]) (fun x : Int × OV => [S0 x.2 (cs ++ goneL SMeterConf.eqb kf m mk (xs.take x.1.toNat))]) (fun x : Int × OV => ((xs.length : Int) - x.1).toNat) (0, o) ?_ (fun x hx => ?_) (hL := (by simp only [show (0 : Int).toNat = 0 from rfl, List.take_zero, goneL, List.filter_nil, List.map_nil, List.append_nil]; repeat first | exact sR | exact sN | apply sC | apply sS | apply sA))))
  · omega
  obtain ⟨i, p⟩ := x
  have hi : 0 ≤ i ∧ i ≤ xs.length := hx
  clear hx
  show Sat _ _ [(1, true, .map (some b)), (2, true, (clo fk []).v), (3, true, (clo ft cap).v), (12, true, u), (13, true, I xs.length), (14, true, I i)] [S0 p (cs ++ goneL SMeterConf.eqb kf m mk (xs.take i.toNat))]
  refine sg (co (Ev.lss_i (.t rfl) (.t rfl)) ?_)
  refine nP (seq ?_)
  first | refine condD rfl (fun h0 => ?_) (fun h0 => ?_) | refine cond rfl (fun h0 => ?_) (fun h0 => ?_)
  · try simp only [nb] at h0
    refine skip (pN (seq (block (sg (co (Ev.indexAddr Tryz.underlying25 ty57 (.t rfl) (.t rfl) (fun w I => hxs w I.keeps) (fun _ => zo)) ?_)))))
    refine co (Ev.loadS0 ty57 (.t rfl) (fun w I => hxs w I.keeps) (fun _ => zo)) ?_
    refine cons (alloc z57 (fun b1 => ?_))
    refine cons (stv ty57 (Lens.id _) (.t rfl) (.t rfl) ?_)
    refine nP (sg ?_)
    have hst := goneL_step SMeterConf.eqb kf m mk xs eMeterConf.zero (i := i) (by omega)
    refine mv rfl (mv rfl (co (Ev.ldv ty57 (.t rfl) (Lens.id _)) ?_))
    refine cons (callcv (.t rfl) hek (.cons (.t rfl) .nil) (fun w I => hk (xs.getD i.toNat eMeterConf.zero) w trivial I.keeps) ?_)
    refine co (Ev.lookupT Tryz.underlying118 Tryz.underlying57 key57 z3 (.t rfl) (.t rfl) (fun _ => (fun w I => hm w I.keeps))) ?_
    refine mv rfl (co (Ev.extract (.t rfl) rfl) (co (Ev.extract (.t rfl) rfl) (asn rfl (asn rfl (nP (sg (mv rfl (co (Ev.not (.t rfl)) ?_))))))))
    refine nP ?_
    first | refine condD rfl (fun h1 => ?_) (fun h1 => ?_) | refine cond rfl (fun h1 => ?_) (fun h1 => ?_)
    · try simp only [nb] at h1
      have hq : (findV SMeterConf.eqb (kf (xs.getD i.toNat eMeterConf.zero)) m).isNone = true := by simpa using h1
      refine region (mv rfl (co (Ev.ldv ty57 (.t rfl) (Lens.id _)) ?_))
      refine cons (callcr (X := OV) (r := S0 p (cs ++ goneL SMeterConf.eqb kf m mk (xs.take i.toNat))) (r' := fun o2 => S0 o2 (cs ++ goneL SMeterConf.eqb kf m mk (xs.take i.toNat) ++ [mk (xs.getD i.toNat eMeterConf.zero)])) (fun _ => True) (fun _ => .tuple #[]) (fun _ => zu) (.t rfl) het (.cons (.t rfl) .nil) (fun w I => ht (xs.getD i.toNat eMeterConf.zero) p _ w trivial (by have := goneL_len SMeterConf.eqb kf m mk (xs.take i.toNat); simp only [List.length_append, List.length_take] at this ⊢; omega) (am w I)) (fun o3 _ => ?_))
      refine nil (bN (pN (region (co (Ev.add_i (.t rfl) (.c (v := I 1) rfl) (fun _ => zo)) ?_))))
      refine mv rfl (nP (nx (X := Int × OV) (i + 1, _) ?_ ?_ (hL := (by rw [hst]; (first | rw [if_pos hq, ← List.append_assoc] | rw [if_neg hq, List.append_nil]); repeat first | exact sR | exact sN | apply sC | apply sS | apply sA))))
      · try dsimp only
        omega
      · try dsimp only
        omega
    · try simp only [nb] at h1
      have hq : ¬ (findV SMeterConf.eqb (kf (xs.getD i.toNat eMeterConf.zero)) m).isNone = true := fun e => by
        rw [Option.isNone_iff_eq_none] at e
        rw [e] at h1
        simp at h1
      refine skip (bN (pN (region (co (Ev.add_i (.t rfl) (.c (v := I 1) rfl) (fun _ => zo)) ?_))))
      refine mv rfl (nP (nx (X := Int × OV) (i + 1, _) ?_ ?_ (hL := (by rw [hst]; (first | rw [if_pos hq, ← List.append_assoc] | rw [if_neg hq, List.append_nil]); repeat first | exact sR | exact sN | apply sC | apply sS | apply sA))))
      · try dsimp only
        omega
      · try dsimp only
        omega
  · try simp only [nb] at h0
    refine exit (pX (pX (bX (done' rfl .nil (fun w I => ?_)))))
    have et : xs.take i.toNat = xs := List.take_of_length_le (by omega)
    rw [et] at I
    exact retR (r' := fun o2 => S0 o2 (cs ++ goneL SMeterConf.eqb kf m mk xs)) _ trivial rfl (List.mem_singleton_self _) w (I.sub zs)
theorem gone_59_59 (fk ft : Nat) (cap : List Value) (kf : SMirrorConf → SMirrorConf) (mk : SMirrorConf → SChange) (b : Nat) (m : List (SMirrorConf × Int)) (S0 : OV → List SChange → Res) (o : OV) (cs : List SChange) (u : Value) (xs : List SMirrorConf) (w : World) (hek : Gx.Enters Tryz.prog fk) (het : Gx.Enters Tryz.prog ft) (h : At (S0 o cs) w) (hxs : ∀ w1, Keeps (S0 o cs).foot w w1 → IsSl eMirrorConf w1 u xs) (hm : ∀ w1, Keeps (S0 o cs).foot w w1 → MapAt w1 b eMirrorConf iE m) (hk : FnAt Tryz.prog fk [] (S0 o cs).foot w eMirrorConf eMirrorConf (fun _ => True) kf) (ht : TellL Tryz.prog ft cap 100000 eMirrorConf S0 (fun _ => True) mk) (hn : cs.length + xs.length < 100000) : Calls Tryz.prog 71 #[u, .map (some b), (clo fk []).v, (clo ft cap).v] w (RetR w (S0 o cs) (fun _ : OV => True) (fun _ => .tuple #[]) (fun o2 => S0 o2 (cs ++ goneL SMirrorConf.eqb kf m mk xs))) := by
  have hle := (hxs w (Keeps.refl _ _)).le
  refine enter (S0 o cs).foot 32 [S0 o cs] Tryz.func71 rfl rfl (Nat.le_of_ble_eq_true rfl) (start_at h) ?_
  refine sg (mv rfl (co (Ev.len Tryz.underlying26 (.t rfl) (fun w I => hxs w I.keeps)) ?_))
  refine co (Ev.move (.c (v := I 0) rfl)) ?_
  refine nP (block (lp (X := Int × OV) (fun x : Int × OV => (0 ≤ x.1 ∧ x.1 ≤ xs.length)) (fun x : Int × OV => [(1, true, .map (some b)), (2, true, (clo fk []).v), (3, true, (clo ft cap).v), (12, true, u), (13, true, I xs.length), (14, true, I x.1)]) (fun x : Int × OV => [S0 x.2 (cs ++ goneL SMirrorConf.eqb kf m mk (xs.take x.1.toNat))]) (fun x : Int × OV => ((xs.length : Int) - x.1).toNat) (0, o) ?_ (fun x hx => ?_) (hL := (by simp only [show (0 : Int).toNat = 0 from rfl, List.take_zero, goneL, List.filter_nil, List.map_nil, List.append_nil]; repeat first | exact sR | exact sN | apply sC | apply sS | apply sA))))
  · omega
  obtain ⟨i, p⟩ := x
  have hi : 0 ≤ i ∧ i ≤ xs.length := hx
  clear hx
  show Sat _ _ [(1, true, .map (some b)), (2, true, (clo fk []).v), (3, true, (clo ft cap).v), (12, true, u), (13, true, I xs.length), (14, true, I i)] [S0 p (cs ++ goneL SMirrorConf.eqb kf m mk (xs.take i.toNat))]
  refine sg (co (Ev.lss_i (.t rfl) (.t rfl)) ?_)
  refine nP (seq ?_)
  first | refine condD rfl (fun h0 => ?_) (fun h0 => ?_) | refine cond rfl (fun h0 => ?_) (fun h0 => ?_)
  · try simp only [nb] at h0
    refine skip (pN (seq (block (sg (co (Ev.indexAddr Tryz.underlying26 ty59 (.t rfl) (.t rfl) (fun w I => hxs w I.keeps) (fun _ => zo)) ?_)))))
    refine co (Ev.loadS0 ty59 (.t rfl) (fun w I => hxs w I.keeps) (fun _ => zo)) ?_
    refine cons (alloc z59 (fun b1 => ?_))
    refine cons (stv ty59 (Lens.id _) (.t rfl) (.t rfl) ?_)
    refine nP (sg ?_)
    have hst := goneL_step SMirrorConf.eqb kf m mk xs eMirrorConf.zero (i := i) (by omega)
    refine mv rfl (mv rfl (co (Ev.ldv ty59 (.t rfl) (Lens.id _)) ?_))
    refine cons (callcv (.t rfl) hek (.cons (.t rfl) .nil) (fun w I => hk (xs.getD i.toNat eMirrorConf.zero) w trivial I.keeps) ?_)
    refine co (Ev.lookupT Tryz.underlying123 Tryz.underlying59 key59 z3 (.t rfl) (.t rfl) (fun _ => (fun w I => hm w I.keeps))) ?_
    refine mv rfl (co (Ev.extract (.t rfl) rfl) (co (Ev.extract (.t rfl) rfl) (asn rfl (asn rfl (nP (sg (mv rfl (co (Ev.not (.t rfl)) ?_))))))))
    refine nP ?_
    first | refine condD rfl (fun h1 => ?_) (fun h1 => ?_) | refine cond rfl (fun h1 => ?_) (fun h1 => ?_)
    · try simp only [nb] at h1
      have hq : (findV SMirrorConf.eqb (kf (xs.getD i.toNat eMirrorConf.zero)) m).isNone = true := by simpa using h1
      refine region (mv rfl (co (Ev.ldv ty59 (.t rfl) (Lens.id _)) ?_))
      refine cons (callcr (X := OV) (r := S0 p (cs ++ goneL SMirrorConf.eqb kf m mk (xs.take i.toNat))) (r' := fun o2 => S0 o2 (cs ++ goneL SMirrorConf.eqb kf m mk (xs.take i.toNat) ++ [mk (xs.getD i.toNat eMirrorConf.zero)])) (fun _ => True) (fun _ => .tuple #[]) (fun _ => zu) (.t rfl) het (.cons (.t rfl) .nil) (fun w I => ht (xs.getD i.toNat eMirrorConf.zero) p _ w trivial (by have := goneL_len SMirrorConf.eqb kf m mk (xs.take i.toNat); simp only [List.length_append, List.length_take] at this ⊢; omega) (am w I)) (fun o3 _ => ?_))
      refine nil (bN (pN (region (co (Ev.add_i (.t rfl) (.c (v := I 1) rfl) (fun _ => zo)) ?_))))
      refine mv rfl (nP (nx (X := Int × OV) (i + 1, _) ?_ ?_ (hL := (by rw [hst]; (first | rw [if_pos hq, ← List.append_assoc] | rw [if_neg hq, List.append_nil]); repeat first | exact sR | exact sN | apply sC | apply sS | apply sA))))
      · try dsimp only
        omega
      · try dsimp only
        omega
    · try simp only [nb] at h1
      have hq : ¬ (findV SMirrorConf.eqb (kf (xs.getD i.toNat eMirrorConf.zero)) m).isNone = true := fun e => by
        rw [Option.isNone_iff_eq_none] at e
        rw [e] at h1
        simp at h1
      refine skip (bN (pN (region (co (Ev.add_i (.t rfl) (.c (v := I 1) rfl) (fun _ => zo)) ?_))))
      refine mv rfl (nP (nx (X := Int × OV) (i + 1, _) ?_ ?_ (hL := (by rw [hst]; (first | rw [if_pos hq, ← List.append_assoc] | rw [if_neg hq, List.append_nil]); repeat first | exact sR | exact sN | apply sC | apply sS | apply sA))))
      · try dsimp only
        omega
      · try dsimp only
        omega
  · try simp only [nb] at h0
    refine exit (pX (pX (bX (done' rfl .nil (fun w I => ?_)))))
    have et : xs.take i.toNat = xs := List.take_of_length_le (by omega)
    rw [et] at I
    exact retR (r' := fun o2 => S0 o2 (cs ++ goneL SMirrorConf.eqb kf m mk xs)) _ trivial rfl (List.mem_singleton_self _) w (I.sub zs)
theorem gone_52_52 (fk ft : Nat) (cap : List Value) (kf : SRoute → SRoute) (mk : SRoute → SChange) (b : Nat) (m : List (SRoute × Int)) (S0 : OV → List SChange → Res) (o : OV) (cs : List SChange) (u : Value) (xs : List SRoute) (w : World) (hek : Gx.Enters Tryz.prog fk) (het : Gx.Enters Tryz.prog ft) (h : At (S0 o cs) w) (hxs : ∀ w1, Keeps (S0 o cs).foot w w1 → IsSl eRoute w1 u xs) (hm : ∀ w1, Keeps (S0 o cs).foot w w1 → MapAt w1 b eRoute iE m) (hk : FnAt Tryz.prog fk [] (S0 o cs).foot w eRoute eRoute (fun _ => True) kf) (ht : TellL Tryz.prog ft cap 100000 eRoute S0 (fun _ => True) mk) (hn : cs.length + xs.length < 100000) : Calls Tryz.prog 75 #[u, .map (some b), (clo fk []).v, (clo ft cap).v] w (RetR w (S0 o cs) (fun _ : OV => True) (fun _ => .tuple #[]) (fun o2 => S0 o2 (cs ++ goneL SRoute.eqb kf m mk xs))) := by
  have hle := (hxs w (Keeps.refl _ _)).le
  refine enter (S0 o cs).foot 32 [S0 o cs] Tryz.func75 rfl rfl (Nat.le_of_ble_eq_true rfl) (start_at h) ?_
  refine sg (mv rfl (co (Ev.len Tryz.underlying23 (.t rfl) (fun w I => hxs w I.keeps)) ?_))
  refine co (Ev.move (.c (v := I 0) rfl)) ?_
  refine nP (block (lp (X := Int × OV) (fun x : Int × OV => (0 ≤ x.1 ∧ x.1 ≤ xs.length)) (fun x : Int × OV => [(1, true, .map (some b)), (2, true, (clo fk []).v), (3, true, (clo ft cap).v), (12, true, u), (13, true, I xs.length), (14, true, I x.1)]) (fun x : Int × OV => [S0 x.2 (cs ++ goneL SRoute.eqb kf m mk (xs.take x.1.toNat))]) (fun x : Int × OV => ((xs.length : Int) - x.1).toNat) (0, o) ?_ (fun x hx => ?_) (hL := (by simp only [show (0 : Int).toNat = 0 from rfl, List.take_zero, goneL, List.filter_nil, List.map_nil, List.append_nil]; repeat first | exact sR | exact sN | apply sC | apply sS | apply sA))))
  · omega
  obtain ⟨i, p⟩ := x
  have hi : 0 ≤ i ∧ i ≤ xs.length := hx
  clear hx
  show Sat _ _ [(1, true, .map (some b)), (2, true, (clo fk []).v), (3, true, (clo ft cap).v), (12, true, u), (13, true, I xs.length), (14, true, I i)] [S0 p (cs ++ goneL SRoute.eqb kf m mk (xs.take i.toNat))]
  refine sg (co (Ev.lss_i (.t rfl) (.t rfl)) ?_)
  refine nP (seq ?_)
  first | refine condD rfl (fun h0 => ?_) (fun h0 => ?_) | refine cond rfl (fun h0 => ?_) (fun h0 => ?_)
  · try simp only [nb] at h0
    refine skip (pN (seq (block (sg (co (Ev.indexAddr Tryz.underlying23 ty52 (.t rfl) (.t rfl) (fun w I => hxs w I.keeps) (fun _ => zo)) ?_)))))
    refine co (Ev.loadS0 ty52 (.t rfl) (fun w I => hxs w I.keeps) (fun _ => zo)) ?_
    refine cons (alloc z52 (fun b1 => ?_))
    refine cons (stv ty52 (Lens.id _) (.t rfl) (.t rfl) ?_)
    refine nP (sg ?_)
    have hst := goneL_step SRoute.eqb kf m mk xs eRoute.zero (i := i) (by omega)
    refine mv rfl (mv rfl (co (Ev.ldv ty52 (.t rfl) (Lens.id _)) ?_))
    refine cons (callcv (.t rfl) hek (.cons (.t rfl) .nil) (fun w I => hk (xs.getD i.toNat eRoute.zero) w trivial I.keeps) ?_)
    refine co (Ev.lookupT Tryz.underlying128 Tryz.underlying52 key52 z3 (.t rfl) (.t rfl) (fun _ => (fun w I => hm w I.keeps))) ?_
    refine mv rfl (co (Ev.extract (.t rfl) rfl) (co (Ev.extract (.t rfl) rfl) (asn rfl (asn rfl (nP (sg (mv rfl (co (Ev.not (.t rfl)) ?_))))))))
    refine nP ?_
    first | refine condD rfl (fun h1 => ?_) (fun h1 => ?_) | refine cond rfl (fun h1 => ?_) (fun h1 => ?_)
    · try simp only [nb] at h1
      have hq : (findV SRoute.eqb (kf (xs.getD i.toNat eRoute.zero)) m).isNone = true := by simpa using h1
      refine region (mv rfl (co (Ev.ldv ty52 (.t rfl) (Lens.id _)) ?_))
      refine cons (callcr (X := OV) (r := S0 p (cs ++ goneL SRoute.eqb kf m mk (xs.take i.toNat))) (r' := fun o2 => S0 o2 (cs ++ goneL SRoute.eqb kf m mk (xs.take i.toNat) ++ [mk (xs.getD i.toNat eRoute.zero)])) (fun _ => True) (fun _ => .tuple #[]) (fun _ => zu) (.t rfl) het (.cons (.t rfl) .nil) (fun w I => ht (xs.getD i.toNat eRoute.zero) p _ w trivial (by have := goneL_len SRoute.eqb kf m mk (xs.take i.toNat); simp only [List.length_append, List.length_take] at this ⊢; omega) (am w I)) (fun o3 _ => ?_))
      refine nil (bN (pN (region (co (Ev.add_i (.t rfl) (.c (v := I 1) rfl) (fun _ => zo)) ?_))))
      refine mv rfl (nP (nx (X := Int × OV) (i + 1, _) ?_ ?_ (hL := (by rw [hst]; (first | rw [if_pos hq, ← List.append_assoc] | rw [if_neg hq, List.append_nil]); repeat first | exact sR | exact sN | apply sC | apply sS | apply sA))))
      · try dsimp only
        omega
      · try dsimp only
        omega
    · try simp only [nb] at h1
      have hq : ¬ (findV SRoute.eqb (kf (xs.getD i.toNat eRoute.zero)) m).isNone = true := fun e => by
        rw [Option.isNone_iff_eq_none] at e
        rw [e] at h1
        simp at h1
      refine skip (bN (pN (region (co (Ev.add_i (.t rfl) (.c (v := I 1) rfl) (fun _ => zo)) ?_))))
      refine mv rfl (nP (nx (X := Int × OV) (i + 1, _) ?_ ?_ (hL := (by rw [hst]; (first | rw [if_pos hq, ← List.append_assoc] | rw [if_neg hq, List.append_nil]); repeat first | exact sR | exact sN | apply sC | apply sS | apply sA))))
      · try dsimp only
        omega
      · try dsimp only
        omega
  · try simp only [nb] at h0
    refine exit (pX (pX (bX (done' rfl .nil (fun w I => ?_)))))
    have et : xs.take i.toNat = xs := List.take_of_length_le (by omega)
    rw [et] at I
    exact retR (r' := fun o2 => S0 o2 (cs ++ goneL SRoute.eqb kf m mk xs)) _ trivial rfl (List.mem_singleton_self _) w (I.sub zs)
theorem gone_50_52 (fk ft : Nat) (cap : List Value) (kf : SRoute → SPrefix) (mk : SRoute → SChange) (b : Nat) (m : List (SPrefix × Int)) (S0 : OV → List SChange → Res) (o : OV) (cs : List SChange) (u : Value) (xs : List SRoute) (w : World) (hek : Gx.Enters Tryz.prog fk) (het : Gx.Enters Tryz.prog ft) (h : At (S0 o cs) w) (hxs : ∀ w1, Keeps (S0 o cs).foot w w1 → IsSl eRoute w1 u xs) (hm : ∀ w1, Keeps (S0 o cs).foot w w1 → MapAt w1 b ePrefix iE m) (hk : FnAt Tryz.prog fk [] (S0 o cs).foot w eRoute ePrefix (fun _ => True) kf) (ht : TellL Tryz.prog ft cap 100000 eRoute S0 (fun _ => True) mk) (hn : cs.length + xs.length < 100000) : Calls Tryz.prog 79 #[u, .map (some b), (clo fk []).v, (clo ft cap).v] w (RetR w (S0 o cs) (fun _ : OV => True) (fun _ => .tuple #[]) (fun o2 => S0 o2 (cs ++ goneL SPrefix.eqb kf m mk xs))) := by
  have hle := (hxs w (Keeps.refl _ _)).le
  refine enter (S0 o cs).foot 32 [S0 o cs] Tryz.func79 rfl rfl (Nat.le_of_ble_eq_true rfl) (start_at h) ?_
  refine sg (mv rfl (co (Ev.len Tryz.underlying23 (.t rfl) (fun w I => hxs w I.keeps)) ?_))
  refine co (Ev.move (.c (v := I 0) rfl)) ?_
  refine nP (block (lp (X := Int × OV) (fun x : Int × OV => (0 ≤ x.1 ∧ x.1 ≤ xs.length)) (fun x : Int × OV => [(1, true, .map (some b)), (2, true, (clo fk []).v), (3, true, (clo ft cap).v), (12, true, u), (13, true, I xs.length), (14, true, I x.1)]) (fun x : Int × OV => [S0 x.2 (cs ++ goneL SPrefix.eqb kf m mk (xs.take x.1.toNat))]) (fun x : Int × OV => ((xs.length : Int) - x.1).toNat) (0, o) ?_ (fun x hx => ?_) (hL := (by simp only [show (0 : Int).toNat = 0 from rfl, List.take_zero, goneL, List.filter_nil, List.map_nil, List.append_nil]; repeat first | exact sR | exact sN | apply sC | apply sS | apply sA))))
  · omega
  obtain ⟨i, p⟩ := x
  have hi : 0 ≤ i ∧ i ≤ xs.length := hx
  clear hx
  show Sat _ _ [(1, true, .map (some b)), (2, true, (clo fk []).v), (3, true, (clo ft cap).v), (12, true, u), (13, true, I xs.length), (14, true, I i)] [S0 p (cs ++ goneL SPrefix.eqb kf m mk (xs.take i.toNat))]
  refine sg (co (Ev.lss_i (.t rfl) (.t rfl)) ?_)
  refine nP (seq ?_)
  first | refine condD rfl (fun h0 => ?_) (fun h0 => ?_) | refine cond rfl (fun h0 => ?_) (fun h0 => ?_)
  · try simp only [nb] at h0
    refine skip (pN (seq (block (sg (co (Ev.indexAddr Tryz.underlying23 ty52 (.t rfl) (.t rfl) (fun w I => hxs w I.keeps) (fun _ => zo)) ?_)))))
    refine co (Ev.loadS0 ty52 (.t rfl) (fun w I => hxs w I.keeps) (fun _ => zo)) ?_
    refine cons (alloc z52 (fun b1 => ?_))
    refine cons (stv ty52 (Lens.id _) (.t rfl) (.t rfl) ?_)
    refine nP (sg ?_)
    have hst := goneL_step SPrefix.eqb kf m mk xs eRoute.zero (i := i) (by omega)
    refine mv rfl (mv rfl (co (Ev.ldv ty52 (.t rfl) (Lens.id _)) ?_))
    refine cons (callcv (.t rfl) hek (.cons (.t rfl) .nil) (fun w I => hk (xs.getD i.toNat eRoute.zero) w trivial I.keeps) ?_)
    refine co (Ev.lookupT Tryz.underlying81 Tryz.underlying50 key50 z3 (.t rfl) (.t rfl) (fun _ => (fun w I => hm w I.keeps))) ?_
    refine mv rfl (co (Ev.extract (.t rfl) rfl) (co (Ev.extract (.t rfl) rfl) (asn rfl (asn rfl (nP (sg (mv rfl (co (Ev.not (.t rfl)) ?_))))))))
    refine nP ?_
    first | refine condD rfl (fun h1 => ?_) (fun h1 => ?_) | refine cond rfl (fun h1 => ?_) (fun h1 => ?_)
    · try simp only [nb] at h1
      have hq : (findV SPrefix.eqb (kf (xs.getD i.toNat eRoute.zero)) m).isNone = true := by simpa using h1
      refine region (mv rfl (co (Ev.ldv ty52 (.t rfl) (Lens.id _)) ?_))
      refine cons (callcr (X := OV) (r := S0 p (cs ++ goneL SPrefix.eqb kf m mk (xs.take i.toNat))) (r' := fun o2 => S0 o2 (cs ++ goneL SPrefix.eqb kf m mk (xs.take i.toNat) ++ [mk (xs.getD i.toNat eRoute.zero)])) (fun _ => True) (fun _ => .tuple #[]) (fun _ => zu) (.t rfl) het (.cons (.t rfl) .nil) (fun w I => ht (xs.getD i.toNat eRoute.zero) p _ w trivial (by have := goneL_len SPrefix.eqb kf m mk (xs.take i.toNat); simp only [List.length_append, List.length_take] at this ⊢; omega) (am w I)) (fun o3 _ => ?_))
      refine nil (bN (pN (region (co (Ev.add_i (.t rfl) (.c (v := I 1) rfl) (fun _ => zo)) ?_))))
      refine mv rfl (nP (nx (X := Int × OV) (i + 1, _) ?_ ?_ (hL := (by rw [hst]; (first | rw [if_pos hq, ← List.append_assoc] | rw [if_neg hq, List.append_nil]); repeat first | exact sR | exact sN | apply sC | apply sS | apply sA))))
      · try dsimp only
        omega
      · try dsimp only
        omega
    · try simp only [nb] at h1
      have hq : ¬ (findV SPrefix.eqb (kf (xs.getD i.toNat eRoute.zero)) m).isNone = true := fun e => by
        rw [Option.isNone_iff_eq_none] at e
        rw [e] at h1
        simp at h1
      refine skip (bN (pN (region (co (Ev.add_i (.t rfl) (.c (v := I 1) rfl) (fun _ => zo)) ?_))))
      refine mv rfl (nP (nx (X := Int × OV) (i + 1, _) ?_ ?_ (hL := (by rw [hst]; (first | rw [if_pos hq, ← List.append_assoc] | rw [if_neg hq, List.append_nil]); repeat first | exact sR | exact sN | apply sC | apply sS | apply sA))))
      · try dsimp only
        omega
      · try dsimp only
        omega
  · try simp only [nb] at h0
    refine exit (pX (pX (bX (done' rfl .nil (fun w I => ?_)))))
    have et : xs.take i.toNat = xs := List.take_of_length_le (by omega)
    rw [et] at I
    exact retR (r' := fun o2 => S0 o2 (cs ++ goneL SPrefix.eqb kf m mk xs)) _ trivial rfl (List.mem_singleton_self _) w (I.sub zs)
theorem gone_9_57 (fk ft : Nat) (cap : List Value) (kf : SMeterConf → ByteArray) (mk : SMeterConf → SChange) (b : Nat) (m : List (ByteArray × Int)) (S0 : OV → List SChange → Res) (o : OV) (cs : List SChange) (u : Value) (xs : List SMeterConf) (w : World) (hek : Gx.Enters Tryz.prog fk) (het : Gx.Enters Tryz.prog ft) (h : At (S0 o cs) w) (hxs : ∀ w1, Keeps (S0 o cs).foot w w1 → IsSl eMeterConf w1 u xs) (hm : ∀ w1, Keeps (S0 o cs).foot w w1 → MapAt w1 b sE iE m) (hk : FnAt Tryz.prog fk [] (S0 o cs).foot w eMeterConf sE (fun _ => True) kf) (ht : TellL Tryz.prog ft cap 100000 eMeterConf S0 (fun _ => True) mk) (hn : cs.length + xs.length < 100000) : Calls Tryz.prog 82 #[u, .map (some b), (clo fk []).v, (clo ft cap).v] w (RetR w (S0 o cs) (fun _ : OV => True) (fun _ => .tuple #[]) (fun o2 => S0 o2 (cs ++ goneL eqs kf m mk xs))) := by
  have hle := (hxs w (Keeps.refl _ _)).le
  refine enter (S0 o cs).foot 32 [S0 o cs] Tryz.func82 rfl rfl (Nat.le_of_ble_eq_true rfl) (start_at h) ?_
  refine sg (mv rfl (co (Ev.len Tryz.underlying25 (.t rfl) (fun w I => hxs w I.keeps)) ?_))
  refine co (Ev.move (.c (v := I 0) rfl)) ?_
  refine nP (block (lp (X := Int × OV) (fun x : Int × OV => (0 ≤ x.1 ∧ x.1 ≤ xs.length)) (fun x : Int × OV => [(1, true, .map (some b)), (2, true, (clo fk []).v), (3, true, (clo ft cap).v), (12, true, u), (13, true, I xs.length), (14, true, I x.1)]) (fun x : Int × OV => [S0 x.2 (cs ++ goneL eqs kf m mk (xs.take x.1.toNat))]) (fun x : Int × OV => ((xs.length : Int) - x.1).toNat) (0, o) ?_ (fun x hx => ?_) (hL := (by simp only [show (0 : Int).toNat = 0 from rfl, List.take_zero, goneL, List.filter_nil, List.map_nil, List.append_nil]; repeat first | exact sR | exact sN | apply sC | apply sS | apply sA))))
  · omega
  obtain ⟨i, p⟩ := x
  have hi : 0 ≤ i ∧ i ≤ xs.length := hx
  clear hx
  show Sat _ _ [(1, true, .map (some b)), (2, true, (clo fk []).v), (3, true, (clo ft cap).v), (12, true, u), (13, true, I xs.length), (14, true, I i)] [S0 p (cs ++ goneL eqs kf m mk (xs.take i.toNat))]
  refine sg (co (Ev.lss_i (.t rfl) (.t rfl)) ?_)
  refine nP (seq ?_)
  first | refine condD rfl (fun h0 => ?_) (fun h0 => ?_) | refine cond rfl (fun h0 => ?_) (fun h0 => ?_)
  · try simp only [nb] at h0
    refine skip (pN (seq (block (sg (co (Ev.indexAddr Tryz.underlying25 ty57 (.t rfl) (.t rfl) (fun w I => hxs w I.keeps) (fun _ => zo)) ?_)))))
    refine co (Ev.loadS0 ty57 (.t rfl) (fun w I => hxs w I.keeps) (fun _ => zo)) ?_
    refine cons (alloc z57 (fun b1 => ?_))
    refine cons (stv ty57 (Lens.id _) (.t rfl) (.t rfl) ?_)
    refine nP (sg ?_)
    have hst := goneL_step eqs kf m mk xs eMeterConf.zero (i := i) (by omega)
    refine mv rfl (mv rfl (co (Ev.ldv ty57 (.t rfl) (Lens.id _)) ?_))
    refine cons (callcv (.t rfl) hek (.cons (.t rfl) .nil) (fun w I => hk (xs.getD i.toNat eMeterConf.zero) w trivial I.keeps) ?_)
    refine co (Ev.lookupT Tryz.underlying82 Tryz.underlying9 key9 z3 (.t rfl) (.t rfl) (fun _ => (fun w I => hm w I.keeps))) ?_
    refine mv rfl (co (Ev.extract (.t rfl) rfl) (co (Ev.extract (.t rfl) rfl) (asn rfl (asn rfl (nP (sg (mv rfl (co (Ev.not (.t rfl)) ?_))))))))
    refine nP ?_
    first | refine condD rfl (fun h1 => ?_) (fun h1 => ?_) | refine cond rfl (fun h1 => ?_) (fun h1 => ?_)
    · try simp only [nb] at h1
      have hq : (findV eqs (kf (xs.getD i.toNat eMeterConf.zero)) m).isNone = true := by simpa using h1
      refine region (mv rfl (co (Ev.ldv ty57 (.t rfl) (Lens.id _)) ?_))
      refine cons (callcr (X := OV) (r := S0 p (cs ++ goneL eqs kf m mk (xs.take i.toNat))) (r' := fun o2 => S0 o2 (cs ++ goneL eqs kf m mk (xs.take i.toNat) ++ [mk (xs.getD i.toNat eMeterConf.zero)])) (fun _ => True) (fun _ => .tuple #[]) (fun _ => zu) (.t rfl) het (.cons (.t rfl) .nil) (fun w I => ht (xs.getD i.toNat eMeterConf.zero) p _ w trivial (by have := goneL_len eqs kf m mk (xs.take i.toNat); simp only [List.length_append, List.length_take] at this ⊢; omega) (am w I)) (fun o3 _ => ?_))
      refine nil (bN (pN (region (co (Ev.add_i (.t rfl) (.c (v := I 1) rfl) (fun _ => zo)) ?_))))
      refine mv rfl (nP (nx (X := Int × OV) (i + 1, _) ?_ ?_ (hL := (by rw [hst]; (first | rw [if_pos hq, ← List.append_assoc] | rw [if_neg hq, List.append_nil]); repeat first | exact sR | exact sN | apply sC | apply sS | apply sA))))
      · try dsimp only
        omega
      · try dsimp only
        omega
    · try simp only [nb] at h1
      have hq : ¬ (findV eqs (kf (xs.getD i.toNat eMeterConf.zero)) m).isNone = true := fun e => by
        rw [Option.isNone_iff_eq_none] at e
        rw [e] at h1
        simp at h1
      refine skip (bN (pN (region (co (Ev.add_i (.t rfl) (.c (v := I 1) rfl) (fun _ => zo)) ?_))))
      refine mv rfl (nP (nx (X := Int × OV) (i + 1, _) ?_ ?_ (hL := (by rw [hst]; (first | rw [if_pos hq, ← List.append_assoc] | rw [if_neg hq, List.append_nil]); repeat first | exact sR | exact sN | apply sC | apply sS | apply sA))))
      · try dsimp only
        omega
      · try dsimp only
        omega
  · try simp only [nb] at h0
    refine exit (pX (pX (bX (done' rfl .nil (fun w I => ?_)))))
    have et : xs.take i.toNat = xs := List.take_of_length_le (by omega)
    rw [et] at I
    exact retR (r' := fun o2 => S0 o2 (cs ++ goneL eqs kf m mk xs)) _ trivial rfl (List.mem_singleton_self _) w (I.sub zs)
theorem gone_9_59 (fk ft : Nat) (cap : List Value) (kf : SMirrorConf → ByteArray) (mk : SMirrorConf → SChange) (b : Nat) (m : List (ByteArray × Int)) (S0 : OV → List SChange → Res) (o : OV) (cs : List SChange) (u : Value) (xs : List SMirrorConf) (w : World) (hek : Gx.Enters Tryz.prog fk) (het : Gx.Enters Tryz.prog ft) (h : At (S0 o cs) w) (hxs : ∀ w1, Keeps (S0 o cs).foot w w1 → IsSl eMirrorConf w1 u xs) (hm : ∀ w1, Keeps (S0 o cs).foot w w1 → MapAt w1 b sE iE m) (hk : FnAt Tryz.prog fk [] (S0 o cs).foot w eMirrorConf sE (fun _ => True) kf) (ht : TellL Tryz.prog ft cap 100000 eMirrorConf S0 (fun _ => True) mk) (hn : cs.length + xs.length < 100000) : Calls Tryz.prog 85 #[u, .map (some b), (clo fk []).v, (clo ft cap).v] w (RetR w (S0 o cs) (fun _ : OV => True) (fun _ => .tuple #[]) (fun o2 => S0 o2 (cs ++ goneL eqs kf m mk xs))) := by
  have hle := (hxs w (Keeps.refl _ _)).le
  refine enter (S0 o cs).foot 32 [S0 o cs] Tryz.func85 rfl rfl (Nat.le_of_ble_eq_true rfl) (start_at h) ?_
  refine sg (mv rfl (co (Ev.len Tryz.underlying26 (.t rfl) (fun w I => hxs w I.keeps)) ?_))
  refine co (Ev.move (.c (v := I 0) rfl)) ?_
  refine nP (block (lp (X := Int × OV) (fun x : Int × OV => (0 ≤ x.1 ∧ x.1 ≤ xs.length)) (fun x : Int × OV => [(1, true, .map (some b)), (2, true, (clo fk []).v), (3, true, (clo ft cap).v), (12, true, u), (13, true, I xs.length), (14, true, I x.1)]) (fun x : Int × OV => [S0 x.2 (cs ++ goneL eqs kf m mk (xs.take x.1.toNat))]) (fun x : Int × OV => ((xs.length : Int) - x.1).toNat) (0, o) ?_ (fun x hx => ?_) (hL := (by simp only [show (0 : Int).toNat = 0 from rfl, List.take_zero, goneL, List.filter_nil, List.map_nil, List.append_nil]; repeat first | exact sR | exact sN | apply sC | apply sS | apply sA))))
  · omega
  obtain ⟨i, p⟩ := x
  have hi : 0 ≤ i ∧ i ≤ xs.length := hx
  clear hx
  show Sat _ _ [(1, true, .map (some b)), (2, true, (clo fk []).v), (3, true, (clo ft cap).v), (12, true, u), (13, true, I xs.length), (14, true, I i)] [S0 p (cs ++ goneL eqs kf m mk (xs.take i.toNat))]
  refine sg (co (Ev.lss_i (.t rfl) (.t rfl)) ?_)
  refine nP (seq ?_)
  first | refine condD rfl (fun h0 => ?_) (fun h0 => ?_) | refine cond rfl (fun h0 => ?_) (fun h0 => ?_)
  · try simp only [nb] at h0
    refine skip (pN (seq (block (sg (co (Ev.indexAddr Tryz.underlying26 ty59 (.t rfl) (.t rfl) (fun w I => hxs w I.keeps) (fun _ => zo)) ?_)))))
    refine co (Ev.loadS0 ty59 (.t rfl) (fun w I => hxs w I.keeps) (fun _ => zo)) ?_
    refine cons (alloc z59 (fun b1 => ?_))
    refine cons (stv ty59 (Lens.id _) (.t rfl) (.t rfl) ?_)
    refine nP (sg ?_)
    have hst := goneL_step eqs kf m mk xs eMirrorConf.zero (i := i) (by omega)
    refine mv rfl (mv rfl (co (Ev.ldv ty59 (.t rfl) (Lens.id _)) ?_))
    refine cons (callcv (.t rfl) hek (.cons (.t rfl) .nil) (fun w I => hk (xs.getD i.toNat eMirrorConf.zero) w trivial I.keeps) ?_)
    refine co (Ev.lookupT Tryz.underlying82 Tryz.underlying9 key9 z3 (.t rfl) (.t rfl) (fun _ => (fun w I => hm w I.keeps))) ?_
    refine mv rfl (co (Ev.extract (.t rfl) rfl) (co (Ev.extract (.t rfl) rfl) (asn rfl (asn rfl (nP (sg (mv rfl (co (Ev.not (.t rfl)) ?_))))))))
    refine nP ?_
    first | refine condD rfl (fun h1 => ?_) (fun h1 => ?_) | refine cond rfl (fun h1 => ?_) (fun h1 => ?_)
    · try simp only [nb] at h1
      have hq : (findV eqs (kf (xs.getD i.toNat eMirrorConf.zero)) m).isNone = true := by simpa using h1
      refine region (mv rfl (co (Ev.ldv ty59 (.t rfl) (Lens.id _)) ?_))
      refine cons (callcr (X := OV) (r := S0 p (cs ++ goneL eqs kf m mk (xs.take i.toNat))) (r' := fun o2 => S0 o2 (cs ++ goneL eqs kf m mk (xs.take i.toNat) ++ [mk (xs.getD i.toNat eMirrorConf.zero)])) (fun _ => True) (fun _ => .tuple #[]) (fun _ => zu) (.t rfl) het (.cons (.t rfl) .nil) (fun w I => ht (xs.getD i.toNat eMirrorConf.zero) p _ w trivial (by have := goneL_len eqs kf m mk (xs.take i.toNat); simp only [List.length_append, List.length_take] at this ⊢; omega) (am w I)) (fun o3 _ => ?_))
      refine nil (bN (pN (region (co (Ev.add_i (.t rfl) (.c (v := I 1) rfl) (fun _ => zo)) ?_))))
      refine mv rfl (nP (nx (X := Int × OV) (i + 1, _) ?_ ?_ (hL := (by rw [hst]; (first | rw [if_pos hq, ← List.append_assoc] | rw [if_neg hq, List.append_nil]); repeat first | exact sR | exact sN | apply sC | apply sS | apply sA))))
      · try dsimp only
        omega
      · try dsimp only
        omega
    · try simp only [nb] at h1
      have hq : ¬ (findV eqs (kf (xs.getD i.toNat eMirrorConf.zero)) m).isNone = true := fun e => by
        rw [Option.isNone_iff_eq_none] at e
        rw [e] at h1
        simp at h1
      refine skip (bN (pN (region (co (Ev.add_i (.t rfl) (.c (v := I 1) rfl) (fun _ => zo)) ?_))))
      refine mv rfl (nP (nx (X := Int × OV) (i + 1, _) ?_ ?_ (hL := (by rw [hst]; (first | rw [if_pos hq, ← List.append_assoc] | rw [if_neg hq, List.append_nil]); repeat first | exact sR | exact sN | apply sC | apply sS | apply sA))))
      · try dsimp only
        omega
      · try dsimp only
        omega
  · try simp only [nb] at h0
    refine exit (pX (pX (bX (done' rfl .nil (fun w I => ?_)))))
    have et : xs.take i.toNat = xs := List.take_of_length_le (by omega)
    rw [et] at I
    exact retR (r' := fun o2 => S0 o2 (cs ++ goneL eqs kf m mk xs)) _ trivial rfl (List.mem_singleton_self _) w (I.sub zs)
def diffs (l k : CL) (da db : Int) (rv : OV) : List SChange := (((((((((([] ++ goneL eqd (fun a => a) (portsM l) (fun x => chPort 1 x) k.ps) ++ goneL SMeterConf.eqb (fun a => a) (firstN SMeterConf.eqb (fun a => a) l.ms l.ms.length) (fun x => chMeter 5 x) k.ms) ++ goneL SMirrorConf.eqb (fun a => a) (firstN SMirrorConf.eqb (fun a => a) l.xs l.xs.length) (fun x => chMirror 7 x) k.xs) ++ goneL SRoute.eqb (fun a => a) (firstN SRoute.eqb (fun a => a) l.rs l.rs.length) (fun x => chRoute 3 x) k.rs) ++ (if l.us = k.us then [] else [chRules rv])) ++ (if da = db then [] else [chDefault db])) ++ goneL SPrefix.eqb (fun a => a.to_) (routesM k) (fun x => chRoute 4 (onlyR x)) l.rs) ++ goneL eqs (fun a => a.name) (metersM k) (fun x => chMeter 6 (onlyM x)) l.ms) ++ goneL eqs (fun a => a.name) (mirrorsM k) (fun x => chMirror 8 (onlyX x)) l.xs) ++ goneL eqd (fun a => a) (portsM k) (fun x => chPort 2 x) l.ps)
def bothB (l k : CL) (da db : Int) : Bool := mayB l da && mayB k db
def diffE (l k : CL) (da db : Int) : Int := if bothB l k da db = true then 0 else 210
def diffL (l k : CL) (da db : Int) (rv : OV) : List SChange := if bothB l k da db = true then diffs l k da db rv else []
def diffR (l k : CL) (da db : Int) : List SRule := if bothB l k da db = true then (if l.us = k.us then [] else k.us) else []
theorem ite_len {α : Type} {p : Prop} [Decidable p] (x : α) : (if p then [] else [x]).length ≤ 1 := by split <;> simp
theorem listG_nil {e : Nat → Int} {d : Int} {n most : Nat} (h : listG e d n most = []) : n ≤ most := by
  unfold listG at h
  have h2 := (List.append_eq_nil_iff.1 h).2
  by_cases hm : most < n
  · rw [if_pos hm] at h2; cases h2
  · omega
theorem may_lens {l : CL} {d : Int} (h : mayB l d = true) : l.ps.length ≤ 256 ∧ l.rs.length ≤ 1024 ∧ l.us.length ≤ 256 ∧ l.ms.length ≤ 64 ∧ l.xs.length ≤ 16 := by
  unfold mayB checkF thingsF at h
  have h := (List.append_eq_nil_iff.1 (of_decide_eq_true h)).1
  have e5 := List.append_eq_nil_iff.1 h
  have e4 := List.append_eq_nil_iff.1 e5.1
  have e3 := List.append_eq_nil_iff.1 e4.1
  have e2 := List.append_eq_nil_iff.1 e3.1
  have e1 := List.append_eq_nil_iff.1 e2.1
  exact ⟨listG_nil e1.2, listG_nil e2.2, listG_nil e3.2, listG_nil e4.2, listG_nil e5.2⟩
theorem en65 : Gx.Enters Tryz.prog 65 := Gx.Enters.mk' zk
theorem en66 : Gx.Enters Tryz.prog 66 := Gx.Enters.mk' zk
theorem en69 : Gx.Enters Tryz.prog 69 := Gx.Enters.mk' zk
theorem en70 : Gx.Enters Tryz.prog 70 := Gx.Enters.mk' zk
theorem en73 : Gx.Enters Tryz.prog 73 := Gx.Enters.mk' zk
theorem en74 : Gx.Enters Tryz.prog 74 := Gx.Enters.mk' zk
theorem en77 : Gx.Enters Tryz.prog 77 := Gx.Enters.mk' zk
theorem en78 : Gx.Enters Tryz.prog 78 := Gx.Enters.mk' zk
theorem en80 : Gx.Enters Tryz.prog 80 := Gx.Enters.mk' zk
theorem en81 : Gx.Enters Tryz.prog 81 := Gx.Enters.mk' zk
theorem en83 : Gx.Enters Tryz.prog 83 := Gx.Enters.mk' zk
theorem en84 : Gx.Enters Tryz.prog 84 := Gx.Enters.mk' zk
theorem en86 : Gx.Enters Tryz.prog 86 := Gx.Enters.mk' zk
theorem en87 : Gx.Enters Tryz.prog 87 := Gx.Enters.mk' zk
theorem en88 : Gx.Enters Tryz.prog 88 := Gx.Enters.mk' zk
theorem en15 : Gx.Enters Tryz.prog 15 := Gx.Enters.mk' zk
theorem z41 : (Tryz.prog.info? 41).bind (·.zero) = some ((ovE nilSl).val (ovE nilSl).zero) := by kernel_rfl
theorem z113 : (Tryz.prog.info? 113).bind (·.zero) = some ((ovE nilFn).val (ovE nilFn).zero) := by kernel_rfl
theorem en64 : Gx.Enters Tryz.prog 64 := Gx.Enters.mk' zk
theorem en68 : Gx.Enters Tryz.prog 68 := Gx.Enters.mk' zk
theorem en67 : Gx.Enters Tryz.prog 67 := Gx.Enters.mk' zk
theorem en72 : Gx.Enters Tryz.prog 72 := Gx.Enters.mk' zk
theorem en71 : Gx.Enters Tryz.prog 71 := Gx.Enters.mk' zk
theorem en76 : Gx.Enters Tryz.prog 76 := Gx.Enters.mk' zk
theorem en75 : Gx.Enters Tryz.prog 75 := Gx.Enters.mk' zk
theorem en79 : Gx.Enters Tryz.prog 79 := Gx.Enters.mk' zk
theorem en82 : Gx.Enters Tryz.prog 82 := Gx.Enters.mk' zk
theorem en85 : Gx.Enters Tryz.prog 85 := Gx.Enters.mk' zk
theorem diff_ok (a b : SConf) (l k : CL) (w : World) (ha : ConfAt w a l) (hb : ConfAt w b k) (hln : l.Names) (hkn : k.Names) (hlz : l.n ≤ 4611686018427387904) (hkz : k.n ≤ 4611686018427387904) : Calls Tryz.prog 23 #[eConf.val a, eConf.val b] w (RetN w (fun _ : OV × OV => True) (fun x => .tuple #[x.1.v, I (diffE l k a.default b.default)]) (fun x => [OwnS x.1.v eChange (diffL l k a.default b.default x.2) 61, OwnS x.2.v eRule (diffR l k a.default b.default) 76])) := by
  refine en0 97 Tryz.func23 ?_
  refine sg (cons (box (E := eConf) (.t rfl) (fun b1 => ?_)))
  refine cons (box (E := eConf) (.t rfl) (fun b2 => ?_))
  refine co (Ev.assign (.c (v := (Go.Value.slice none 0 0)) rfl)) ?_
  refine co (Ev.assign (.c (v := I 0) rfl)) ?_
  refine nP (seq (sg (co (Ev.ldx a ty28 (.t rfl) (Lens.id _)) ?_)))
  refine cons (callv en15 (.cons (.t rfl) .nil) (fun w I => may_ok a l w (ha.keep0 I.keeps) hln hlz) ?_)
  refine co (Ev.not (.t rfl)) ?_
  refine mv rfl (cg rfl rfl (Ev.ldx b ty28 (.t rfl) (Lens.id _)) ?_)
  refine cons (callg rfl rfl en15 (.cons (.g rfl id) .nil) (fun hg w I => may_ok b k w (hb.keep0 I.keeps) hkn hkz) ?_)
  refine cg rfl rfl (Ev.not (.g rfl id)) ?_
  refine co (Ev.pkO (.t rfl) rfl) ?_
  refine nP ?_
  first | refine condD rfl (fun h0 => ?_) (fun h0 => ?_) | refine cond rfl (fun h0 => ?_) (fun h0 => ?_)
  · have hbo : bothB l k a.default b.default = false := by
      unfold bothB
      rw [Bool.and_eq_false_iff]
      simpa using h0
    refine sg (takeNil eRule 76 ?_)
    refine takeNil eChange 61 ?_
    refine co (Ev.assign (.c (v := (Go.Value.slice none 0 0)) rfl)) ?_
    refine co (Ev.assign (.c (v := I 210) rfl)) ?_
    refine nP (ret (pR (done rfl (.tmp rfl (.tmp rfl .nil)) (fun w I => ?_))))
    exact retNP (nilSl, nilSl) trivial (by unfold diffE; rw [hbo]; rfl) (by unfold diffL diffR; rw [hbo]; exact (by repeat first | exact SubP.nil | refine SubP.cons zr ?_)) w I
  · have hbo : bothB l k a.default b.default = true := by
      unfold bothB
      simpa using h0
    have hbl := may_lens (Bool.and_eq_true_iff.1 hbo).1
    have hbk := may_lens (Bool.and_eq_true_iff.1 hbo).2
    refine skip (pN (sg (cons (alloc z41 (fun b3 => ?_)))))
    refine nP (sg (co (Ev.makeFunc (f := 63) (.cons (.t rfl) .nil)) ?_))
    refine cons (alloc z113 (fun b4 => ?_))
    refine cons (stv ty113 (Lens.id _) (.t rfl) (.t rfl) ?_)
    refine nP (cut (X := KB × KB × Nat × Nat) (fun x : KB × KB × Nat × Nat => True) (fun x : KB × KB × Nat × Nat => [(2, true, .pointer (some ⟨b1, 0, none⟩)), (3, true, .pointer (some ⟨b2, 0, none⟩)), (6, true, .pointer (some ⟨b3, 0, none⟩)), (7, true, .pointer (some ⟨b4, 0, none⟩)), (8, true, .pointer (some ⟨x.2.2.1, 0, none⟩)), (9, true, .pointer (some ⟨x.2.2.2, 0, none⟩))]) (fun x : KB × KB × Nat × Nat => [DR b4 b3 nilSl [], Var x.2.2.1 eConfKnown x.1.k 84, Var x.2.2.2 eConfKnown x.2.1.k 84, KnR x.1 l, KnR x.2.1 k, Var b2 eConf b 28, Var b1 eConf a 28]) ?_ (fun x hx => ?_))
    · refine takeNil eChange 61 ?_
      refine sepIn (r := Var b3 (ovE nilSl) nilSl 41) (s := OwnS nilSl.v eChange [] 61) (Rem.tail (Rem.tail Rem.head)) Rem.head ?_
      refine sepIn (r := Var b4 (ovE nilFn) (clo 63 [.pointer (some ⟨b3, 0, none⟩)]) 113) (s := OR b3 nilSl []) (Rem.tail Rem.head) Rem.head ?_
      refine draw' zk ?_
      refine tk 0 rfl (Ev.ldx a ty28 (.t rfl) (Lens.id _)) ?_
      refine tk 2 rfl (Ev.ldx b ty28 (.t rfl) (Lens.id _)) ?_
      refine all [1, 4, 5] zk (by decide) (.cons rfl ?_ (.cons rfl ?_ (.cons rfl ?_ .nil)))
      · refine (calln (X := KB) (fun _ => True) (fun x => eConfKnown.val x.k) (fun x => x.R l) en36 (.cons (.t rfl) .nil) (fun w I => of_ok _ l w (ha.keep0 I.keeps)) (fun ka _ => known_in ?_))
        refine hdn (all [3, 4, 5] zk (by decide) (.cons rfl ?_ (.cons rfl ?_ (.cons rfl ?_ .nil))))
        · refine (calln (X := KB) (fun _ => True) (fun x => eConfKnown.val x.k) (fun x => x.R k) en36 (.cons (.t rfl) .nil) (fun w I => of_ok _ k w (hb.keep0 I.keeps)) (fun kb _ => known_in ?_))
          refine hdn (all [4, 5] zk (by decide) (.cons rfl ?_ (.cons rfl ?_ .nil)))
          · refine (alloc z84 (fun b5 => ?_))
            refine hdn (al1 5 rfl ((alloc z84 (fun b6 => ?_))))
            refine hdn (al1 6 rfl ((stv ty84 (Lens.id _) (.t rfl) (.t rfl) ?_)))
            refine hdn (al1 7 rfl ((stv ty84 (Lens.id _) (.t rfl) (.t rfl) ?_)))
            refine hdn (ovr (pN (mtP (X := KB × KB × Nat × Nat) (_, _, _, _) trivial)))
          · refine (alloc z84 (fun b7 => ?_))
            refine hdn (al1 4 rfl ((alloc z84 (fun b8 => ?_))))
            refine hdn (al1 6 rfl ((stv ty84 (Lens.id _) (.t rfl) (.t rfl) ?_)))
            refine hdn (al1 7 rfl ((stv ty84 (Lens.id _) (.t rfl) (.t rfl) ?_)))
            refine hdn (ovr (pN (mtP (X := KB × KB × Nat × Nat) (_, _, _, _) trivial)))
        · refine (alloc z84 (fun b9 => ?_))
          refine hdn (all [3, 5] zk (by decide) (.cons rfl ?_ (.cons rfl ?_ .nil)))
          · refine (calln (X := KB) (fun _ => True) (fun x => eConfKnown.val x.k) (fun x => x.R k) en36 (.cons (.t rfl) .nil) (fun w I => of_ok _ k w (hb.keep0 I.keeps)) (fun kb _ => known_in ?_))
            refine hdn (al1 5 rfl ((alloc z84 (fun b10 => ?_))))
            refine hdn (al1 6 rfl ((stv ty84 (Lens.id _) (.t rfl) (.t rfl) ?_)))
            refine hdn (al1 7 rfl ((stv ty84 (Lens.id _) (.t rfl) (.t rfl) ?_)))
            refine hdn (ovr (pN (mtP (X := KB × KB × Nat × Nat) (_, _, _, _) trivial)))
          · refine (alloc z84 (fun b11 => ?_))
            refine hdn (al1 3 rfl ((calln (X := KB) (fun _ => True) (fun x => eConfKnown.val x.k) (fun x => x.R k) en36 (.cons (.t rfl) .nil) (fun w I => of_ok _ k w (hb.keep0 I.keeps)) (fun kb _ => known_in ?_))))
            refine hdn (al1 6 rfl ((stv ty84 (Lens.id _) (.t rfl) (.t rfl) ?_)))
            refine hdn (al1 7 rfl ((stv ty84 (Lens.id _) (.t rfl) (.t rfl) ?_)))
            refine hdn (ovr (pN (mtP (X := KB × KB × Nat × Nat) (_, _, _, _) trivial)))
        · refine (alloc z84 (fun b12 => ?_))
          refine hdn (all [3, 4] zk (by decide) (.cons rfl ?_ (.cons rfl ?_ .nil)))
          · refine (calln (X := KB) (fun _ => True) (fun x => eConfKnown.val x.k) (fun x => x.R k) en36 (.cons (.t rfl) .nil) (fun w I => of_ok _ k w (hb.keep0 I.keeps)) (fun kb _ => known_in ?_))
            refine hdn (al1 4 rfl ((alloc z84 (fun b13 => ?_))))
            refine hdn (al1 6 rfl ((stv ty84 (Lens.id _) (.t rfl) (.t rfl) ?_)))
            refine hdn (al1 7 rfl ((stv ty84 (Lens.id _) (.t rfl) (.t rfl) ?_)))
            refine hdn (ovr (pN (mtP (X := KB × KB × Nat × Nat) (_, _, _, _) trivial)))
          · refine (alloc z84 (fun b14 => ?_))
            refine hdn (al1 3 rfl ((calln (X := KB) (fun _ => True) (fun x => eConfKnown.val x.k) (fun x => x.R k) en36 (.cons (.t rfl) .nil) (fun w I => of_ok _ k w (hb.keep0 I.keeps)) (fun kb _ => known_in ?_))))
            refine hdn (al1 6 rfl ((stv ty84 (Lens.id _) (.t rfl) (.t rfl) ?_)))
            refine hdn (al1 7 rfl ((stv ty84 (Lens.id _) (.t rfl) (.t rfl) ?_)))
            refine hdn (ovr (pN (mtP (X := KB × KB × Nat × Nat) (_, _, _, _) trivial)))
      · refine (alloc z84 (fun b15 => ?_))
        refine hdn (all [1, 5] zk (by decide) (.cons rfl ?_ (.cons rfl ?_ .nil)))
        · refine (calln (X := KB) (fun _ => True) (fun x => eConfKnown.val x.k) (fun x => x.R l) en36 (.cons (.t rfl) .nil) (fun w I => of_ok _ l w (ha.keep0 I.keeps)) (fun ka _ => known_in ?_))
          refine hdn (all [3, 5] zk (by decide) (.cons rfl ?_ (.cons rfl ?_ .nil)))
          · refine (calln (X := KB) (fun _ => True) (fun x => eConfKnown.val x.k) (fun x => x.R k) en36 (.cons (.t rfl) .nil) (fun w I => of_ok _ k w (hb.keep0 I.keeps)) (fun kb _ => known_in ?_))
            refine hdn (al1 5 rfl ((alloc z84 (fun b16 => ?_))))
            refine hdn (al1 6 rfl ((stv ty84 (Lens.id _) (.t rfl) (.t rfl) ?_)))
            refine hdn (al1 7 rfl ((stv ty84 (Lens.id _) (.t rfl) (.t rfl) ?_)))
            refine hdn (ovr (pN (mtP (X := KB × KB × Nat × Nat) (_, _, _, _) trivial)))
          · refine (alloc z84 (fun b17 => ?_))
            refine hdn (al1 3 rfl ((calln (X := KB) (fun _ => True) (fun x => eConfKnown.val x.k) (fun x => x.R k) en36 (.cons (.t rfl) .nil) (fun w I => of_ok _ k w (hb.keep0 I.keeps)) (fun kb _ => known_in ?_))))
            refine hdn (al1 6 rfl ((stv ty84 (Lens.id _) (.t rfl) (.t rfl) ?_)))
            refine hdn (al1 7 rfl ((stv ty84 (Lens.id _) (.t rfl) (.t rfl) ?_)))
            refine hdn (ovr (pN (mtP (X := KB × KB × Nat × Nat) (_, _, _, _) trivial)))
        · refine (alloc z84 (fun b18 => ?_))
          refine hdn (al1 1 rfl ((calln (X := KB) (fun _ => True) (fun x => eConfKnown.val x.k) (fun x => x.R l) en36 (.cons (.t rfl) .nil) (fun w I => of_ok _ l w (ha.keep0 I.keeps)) (fun ka _ => known_in ?_))))
          refine hdn (al1 3 rfl ((calln (X := KB) (fun _ => True) (fun x => eConfKnown.val x.k) (fun x => x.R k) en36 (.cons (.t rfl) .nil) (fun w I => of_ok _ k w (hb.keep0 I.keeps)) (fun kb _ => known_in ?_))))
          refine hdn (al1 6 rfl ((stv ty84 (Lens.id _) (.t rfl) (.t rfl) ?_)))
          refine hdn (al1 7 rfl ((stv ty84 (Lens.id _) (.t rfl) (.t rfl) ?_)))
          refine hdn (ovr (pN (mtP (X := KB × KB × Nat × Nat) (_, _, _, _) trivial)))
      · refine (alloc z84 (fun b19 => ?_))
        refine hdn (all [1, 4] zk (by decide) (.cons rfl ?_ (.cons rfl ?_ .nil)))
        · refine (calln (X := KB) (fun _ => True) (fun x => eConfKnown.val x.k) (fun x => x.R l) en36 (.cons (.t rfl) .nil) (fun w I => of_ok _ l w (ha.keep0 I.keeps)) (fun ka _ => known_in ?_))
          refine hdn (all [3, 4] zk (by decide) (.cons rfl ?_ (.cons rfl ?_ .nil)))
          · refine (calln (X := KB) (fun _ => True) (fun x => eConfKnown.val x.k) (fun x => x.R k) en36 (.cons (.t rfl) .nil) (fun w I => of_ok _ k w (hb.keep0 I.keeps)) (fun kb _ => known_in ?_))
            refine hdn (al1 4 rfl ((alloc z84 (fun b20 => ?_))))
            refine hdn (al1 6 rfl ((stv ty84 (Lens.id _) (.t rfl) (.t rfl) ?_)))
            refine hdn (al1 7 rfl ((stv ty84 (Lens.id _) (.t rfl) (.t rfl) ?_)))
            refine hdn (ovr (pN (mtP (X := KB × KB × Nat × Nat) (_, _, _, _) trivial)))
          · refine (alloc z84 (fun b21 => ?_))
            refine hdn (al1 3 rfl ((calln (X := KB) (fun _ => True) (fun x => eConfKnown.val x.k) (fun x => x.R k) en36 (.cons (.t rfl) .nil) (fun w I => of_ok _ k w (hb.keep0 I.keeps)) (fun kb _ => known_in ?_))))
            refine hdn (al1 6 rfl ((stv ty84 (Lens.id _) (.t rfl) (.t rfl) ?_)))
            refine hdn (al1 7 rfl ((stv ty84 (Lens.id _) (.t rfl) (.t rfl) ?_)))
            refine hdn (ovr (pN (mtP (X := KB × KB × Nat × Nat) (_, _, _, _) trivial)))
        · refine (alloc z84 (fun b22 => ?_))
          refine hdn (al1 1 rfl ((calln (X := KB) (fun _ => True) (fun x => eConfKnown.val x.k) (fun x => x.R l) en36 (.cons (.t rfl) .nil) (fun w I => of_ok _ l w (ha.keep0 I.keeps)) (fun ka _ => known_in ?_))))
          refine hdn (al1 3 rfl ((calln (X := KB) (fun _ => True) (fun x => eConfKnown.val x.k) (fun x => x.R k) en36 (.cons (.t rfl) .nil) (fun w I => of_ok _ k w (hb.keep0 I.keeps)) (fun kb _ => known_in ?_))))
          refine hdn (al1 6 rfl ((stv ty84 (Lens.id _) (.t rfl) (.t rfl) ?_)))
          refine hdn (al1 7 rfl ((stv ty84 (Lens.id _) (.t rfl) (.t rfl) ?_)))
          refine hdn (ovr (pN (mtP (X := KB × KB × Nat × Nat) (_, _, _, _) trivial)))
    obtain ⟨ka, kb, p8, p9⟩ := x
    show Sat _ _ [(2, true, .pointer (some ⟨b1, 0, none⟩)), (3, true, .pointer (some ⟨b2, 0, none⟩)), (6, true, .pointer (some ⟨b3, 0, none⟩)), (7, true, .pointer (some ⟨b4, 0, none⟩)), (8, true, .pointer (some ⟨p8, 0, none⟩)), (9, true, .pointer (some ⟨p9, 0, none⟩))] [DR b4 b3 nilSl [], Var p8 eConfKnown ka.k 84, Var p9 eConfKnown kb.k 84, KnR ka l, KnR kb k, Var b2 eConf b 28, Var b1 eConf a 28]
    refine sg (co (fA 0 (.t rfl)) ?_)
    refine co (Ev.ldx b.ports ty22 (.t rfl) SConf.l_ports) ?_
    refine co (fA 0 (.t rfl)) ?_
    refine co (Ev.ldv ty80 (.t rfl) SConfKnown.l_ports) ?_
    refine co (Ev.makeFunc (f := 66) (.cons (.t rfl) .nil)) ?_
    refine cons (callr (X := OV) (r := DR b4 b3 nilSl []) (r' := fun o2 => DR b4 b3 o2 ([] ++ goneL eqd (fun a => a) (portsM l) (fun x => chPort 1 x) k.ps)) (fun _ => True) (fun _ => .tuple #[]) (fun _ => zu) (by repeat first | exact mH | apply mT | apply mA) en64 (.cons (.t rfl) (.cons (.t rfl) (.cons .f (.cons (.t rfl) .nil)))) (fun w I => gone_3_3 65 66 [.pointer (some ⟨b4, 0, none⟩)] (fun a => a) (fun x => chPort 1 x) ka.b1 (portsM l) (DR b4 b3) nilSl _ _ k.ps w en65 en66 (am w I) (fun w1 k1 => hb.ps.keep0 (I.but zr k1).keeps) (fun w1 k1 => by have I1 := I.but zr k1; exact (known_of (x := ka) (l := l) (by repeat first | exact mH | apply mT | apply mA) w1 I1).ps) (its_i_at _ _) (tell2_at b4 b3) (by simp only [List.length_append, List.length_nil]; omega)) (fun o1 _ => ?_))
    refine nP (seq (drawR .head zk ?_))
    refine tk 0 rfl (fA 3 (.t rfl)) ?_
    refine tk 1 rfl (Ev.ldx b.meters ty25 (.t rfl) SConf.l_meters) ?_
    refine tk 2 rfl (fA 3 (.t rfl)) ?_
    refine tk 3 rfl (Ev.ldx a.meters ty25 (.t rfl) SConf.l_meters) ?_
    refine tk 5 rfl (Ev.makeFunc (f := 70) (.cons (.t rfl) .nil)) ?_
    refine al1 4 rfl ((calln (X := Nat) (fun _ => True) (fun b => .map (some b)) (fun b => [MapR b eMeterConf iE (firstN SMeterConf.eqb (fun a => a) l.ms l.ms.length)]) en68 (.cons (.t rfl) (.cons .f .nil)) (fun w I => first_57_57 69 [] _ _ l.ms w en69 (ha.keep0 I.keeps).ms (its_m_at _ _)) (fun m7 _ => ?_)))
    refine hdn (al1 6 rfl ((callr (X := OV) (r := DR b4 b3 o1 ([] ++ goneL eqd (fun a => a) (portsM l) (fun x => chPort 1 x) k.ps)) (r' := fun o2 => DR b4 b3 o2 (([] ++ goneL eqd (fun a => a) (portsM l) (fun x => chPort 1 x) k.ps) ++ goneL SMeterConf.eqb (fun a => a) (firstN SMeterConf.eqb (fun a => a) l.ms l.ms.length) (fun x => chMeter 5 x) k.ms)) (fun _ => True) (fun _ => .tuple #[]) (fun _ => zu) (by repeat first | exact mH | apply mT | apply mA) en67 (.cons (.t rfl) (.cons (.t rfl) (.cons .f (.cons (.t rfl) .nil)))) (fun w I => gone_57_57 69 70 [.pointer (some ⟨b4, 0, none⟩)] (fun a => a) (fun x => chMeter 5 x) m7 (firstN SMeterConf.eqb (fun a => a) l.ms l.ms.length) (DR b4 b3) o1 _ _ k.ms w en69 en70 (am w I) (fun w1 k1 => hb.ms.keep0 (I.but zr k1).keeps) (fun w1 k1 => by have I1 := I.but zr k1; exact mapAt_own (by repeat first | exact mH | apply mT | apply mA) w1 I1) (its_m_at _ _) (tell3_at b4 b3) (by simp only [List.length_append, List.length_nil]; have g1 := goneL_len eqd (fun a => a) (portsM l) (fun x => chPort 1 x) k.ps; omega)) (fun o2 _ => ?_))))
    refine hdn (ovr (pN (seq (drawR (.tail .head) zk ?_))))
    refine tk 0 rfl (fA 4 (.t rfl)) ?_
    refine tk 1 rfl (Ev.ldx b.mirrors ty26 (.t rfl) SConf.l_mirrors) ?_
    refine tk 2 rfl (fA 4 (.t rfl)) ?_
    refine tk 3 rfl (Ev.ldx a.mirrors ty26 (.t rfl) SConf.l_mirrors) ?_
    refine tk 5 rfl (Ev.makeFunc (f := 74) (.cons (.t rfl) .nil)) ?_
    refine al1 4 rfl ((calln (X := Nat) (fun _ => True) (fun b => .map (some b)) (fun b => [MapR b eMirrorConf iE (firstN SMirrorConf.eqb (fun a => a) l.xs l.xs.length)]) en72 (.cons (.t rfl) (.cons .f .nil)) (fun w I => first_59_59 73 [] _ _ l.xs w en73 (ha.keep0 I.keeps).xs (its_x_at _ _)) (fun m8 _ => ?_)))
    refine hdn (al1 6 rfl ((callr (X := OV) (r := DR b4 b3 o2 (([] ++ goneL eqd (fun a => a) (portsM l) (fun x => chPort 1 x) k.ps) ++ goneL SMeterConf.eqb (fun a => a) (firstN SMeterConf.eqb (fun a => a) l.ms l.ms.length) (fun x => chMeter 5 x) k.ms)) (r' := fun o2 => DR b4 b3 o2 ((([] ++ goneL eqd (fun a => a) (portsM l) (fun x => chPort 1 x) k.ps) ++ goneL SMeterConf.eqb (fun a => a) (firstN SMeterConf.eqb (fun a => a) l.ms l.ms.length) (fun x => chMeter 5 x) k.ms) ++ goneL SMirrorConf.eqb (fun a => a) (firstN SMirrorConf.eqb (fun a => a) l.xs l.xs.length) (fun x => chMirror 7 x) k.xs)) (fun _ => True) (fun _ => .tuple #[]) (fun _ => zu) (by repeat first | exact mH | apply mT | apply mA) en71 (.cons (.t rfl) (.cons (.t rfl) (.cons .f (.cons (.t rfl) .nil)))) (fun w I => gone_59_59 73 74 [.pointer (some ⟨b4, 0, none⟩)] (fun a => a) (fun x => chMirror 7 x) m8 (firstN SMirrorConf.eqb (fun a => a) l.xs l.xs.length) (DR b4 b3) o2 _ _ k.xs w en73 en74 (am w I) (fun w1 k1 => hb.xs.keep0 (I.but zr k1).keeps) (fun w1 k1 => by have I1 := I.but zr k1; exact mapAt_own (by repeat first | exact mH | apply mT | apply mA) w1 I1) (its_x_at _ _) (tell4_at b4 b3) (by simp only [List.length_append, List.length_nil]; have g1 := goneL_len eqd (fun a => a) (portsM l) (fun x => chPort 1 x) k.ps; have g2 := goneL_len SMeterConf.eqb (fun a => a) (firstN SMeterConf.eqb (fun a => a) l.ms l.ms.length) (fun x => chMeter 5 x) k.ms; omega)) (fun o3 _ => ?_))))
    refine hdn (ovr (pN (seq (drawR (.tail (.tail .head)) zk ?_))))
    refine tk 0 rfl (fA 1 (.t rfl)) ?_
    refine tk 1 rfl (Ev.ldx b.routes ty23 (.t rfl) SConf.l_routes) ?_
    refine tk 2 rfl (fA 1 (.t rfl)) ?_
    refine tk 3 rfl (Ev.ldx a.routes ty23 (.t rfl) SConf.l_routes) ?_
    refine tk 5 rfl (Ev.makeFunc (f := 78) (.cons (.t rfl) .nil)) ?_
    refine al1 4 rfl ((calln (X := Nat) (fun _ => True) (fun b => .map (some b)) (fun b => [MapR b eRoute iE (firstN SRoute.eqb (fun a => a) l.rs l.rs.length)]) en76 (.cons (.t rfl) (.cons .f .nil)) (fun w I => first_52_52 77 [] _ _ l.rs w en77 (ha.keep0 I.keeps).rs (its_r_at _ _)) (fun m9 _ => ?_)))
    refine hdn (al1 6 rfl ((callr (X := OV) (r := DR b4 b3 o3 ((([] ++ goneL eqd (fun a => a) (portsM l) (fun x => chPort 1 x) k.ps) ++ goneL SMeterConf.eqb (fun a => a) (firstN SMeterConf.eqb (fun a => a) l.ms l.ms.length) (fun x => chMeter 5 x) k.ms) ++ goneL SMirrorConf.eqb (fun a => a) (firstN SMirrorConf.eqb (fun a => a) l.xs l.xs.length) (fun x => chMirror 7 x) k.xs)) (r' := fun o2 => DR b4 b3 o2 (((([] ++ goneL eqd (fun a => a) (portsM l) (fun x => chPort 1 x) k.ps) ++ goneL SMeterConf.eqb (fun a => a) (firstN SMeterConf.eqb (fun a => a) l.ms l.ms.length) (fun x => chMeter 5 x) k.ms) ++ goneL SMirrorConf.eqb (fun a => a) (firstN SMirrorConf.eqb (fun a => a) l.xs l.xs.length) (fun x => chMirror 7 x) k.xs) ++ goneL SRoute.eqb (fun a => a) (firstN SRoute.eqb (fun a => a) l.rs l.rs.length) (fun x => chRoute 3 x) k.rs)) (fun _ => True) (fun _ => .tuple #[]) (fun _ => zu) (by repeat first | exact mH | apply mT | apply mA) en75 (.cons (.t rfl) (.cons (.t rfl) (.cons .f (.cons (.t rfl) .nil)))) (fun w I => gone_52_52 77 78 [.pointer (some ⟨b4, 0, none⟩)] (fun a => a) (fun x => chRoute 3 x) m9 (firstN SRoute.eqb (fun a => a) l.rs l.rs.length) (DR b4 b3) o3 _ _ k.rs w en77 en78 (am w I) (fun w1 k1 => hb.rs.keep0 (I.but zr k1).keeps) (fun w1 k1 => by have I1 := I.but zr k1; exact mapAt_own (by repeat first | exact mH | apply mT | apply mA) w1 I1) (its_r_at _ _) (tell5_at b4 b3) (by simp only [List.length_append, List.length_nil]; have g1 := goneL_len eqd (fun a => a) (portsM l) (fun x => chPort 1 x) k.ps; have g2 := goneL_len SMeterConf.eqb (fun a => a) (firstN SMeterConf.eqb (fun a => a) l.ms l.ms.length) (fun x => chMeter 5 x) k.ms; have g3 := goneL_len SMirrorConf.eqb (fun a => a) (firstN SMirrorConf.eqb (fun a => a) l.xs l.xs.length) (fun x => chMirror 7 x) k.xs; omega)) (fun o4 _ => ?_))))
    refine hdn (ovr (pN (cut (X := OV × OV) (fun x : OV × OV => True) (fun x : OV × OV => [(2, true, .pointer (some ⟨b1, 0, none⟩)), (3, true, .pointer (some ⟨b2, 0, none⟩)), (6, true, .pointer (some ⟨b3, 0, none⟩)), (7, true, .pointer (some ⟨b4, 0, none⟩)), (8, true, .pointer (some ⟨p8, 0, none⟩)), (9, true, .pointer (some ⟨p9, 0, none⟩))]) (fun x : OV × OV => [OR b3 x.1 ((((([] ++ goneL eqd (fun a => a) (portsM l) (fun x => chPort 1 x) k.ps) ++ goneL SMeterConf.eqb (fun a => a) (firstN SMeterConf.eqb (fun a => a) l.ms l.ms.length) (fun x => chMeter 5 x) k.ms) ++ goneL SMirrorConf.eqb (fun a => a) (firstN SMirrorConf.eqb (fun a => a) l.xs l.xs.length) (fun x => chMirror 7 x) k.xs) ++ goneL SRoute.eqb (fun a => a) (firstN SRoute.eqb (fun a => a) l.rs l.rs.length) (fun x => chRoute 3 x) k.rs) ++ (if l.us = k.us then [] else [chRules x.2])), Var b4 (ovE nilFn) (clo 63 [.pointer (some ⟨b3, 0, none⟩)]) 113, OwnS x.2.v eRule (if l.us = k.us then [] else k.us) 76, Var p8 eConfKnown ka.k 84, Var p9 eConfKnown kb.k 84, KnR ka l, KnR kb k, Var b2 eConf b 28, Var b1 eConf a 28]) ?_ (fun x hx => ?_))))
    · refine sg (co (fA 2 (.t rfl)) ?_)
      refine co (Ev.ldx a.rules ty24 (.t rfl) SConf.l_rules) ?_
      refine co (fA 2 (.t rfl)) ?_
      refine co (Ev.ldx b.rules ty24 (.t rfl) SConf.l_rules) ?_
      refine cons (callv en54 (.cons (.t rfl) (.cons (.t rfl) .nil)) (fun w I => equal_76 _ _ _ _ w (ha.keep0 I.keeps).us (hb.keep0 I.keeps).us) ?_)
      refine co (Ev.not (.t rfl)) ?_
      refine nP ?_
      first | refine condD rfl (fun h1 => ?_) (fun h1 => ?_) | refine cond rfl (fun h1 => ?_) (fun h1 => ?_)
      · try simp only [nb] at h1
        refine sepOut zr ?_
        refine drawR (.tail .head) zk ?_
        refine tk 0 rfl (Ev.ldv ty113 (.t rfl) (Lens.id _)) ?_
        refine tk 1 rfl (fA 2 (.t rfl)) ?_
        refine tk 2 rfl (Ev.ldx b.rules ty24 (.t rfl) SConf.l_rules) ?_
        refine al1 3 rfl ((callo en50 (.cons (.t rfl) .nil) (fun w I => clone_76 _ _ w (hb.keep0 I.keeps).us (by omega)) (fun rvx => ?_)))
        refine hdn (tk 4 rfl (Ev.buildS (fs := _) (places := [(0, 1), (1, 1), (2, 19), (21, 4), (25, 3), (28, 1), (29, 1)]) z61 rfl Tryz.underlying61 zk (.cons (.c (v := I 9) rfl) (.cons (.t rfl) .nil)) (Fills.cons SChange.l_kind rfl (Fills.cons SChange.l_rules rfl Fills.nil))) ?_)
        refine al1 5 rfl ((callcr (X := OV) (r := OR b3 o4 (((([] ++ goneL eqd (fun a => a) (portsM l) (fun x => chPort 1 x) k.ps) ++ goneL SMeterConf.eqb (fun a => a) (firstN SMeterConf.eqb (fun a => a) l.ms l.ms.length) (fun x => chMeter 5 x) k.ms) ++ goneL SMirrorConf.eqb (fun a => a) (firstN SMirrorConf.eqb (fun a => a) l.xs l.xs.length) (fun x => chMirror 7 x) k.xs) ++ goneL SRoute.eqb (fun a => a) (firstN SRoute.eqb (fun a => a) l.rs l.rs.length) (fun x => chRoute 3 x) k.rs)) (r' := fun o2 => OR b3 o2 ((((([] ++ goneL eqd (fun a => a) (portsM l) (fun x => chPort 1 x) k.ps) ++ goneL SMeterConf.eqb (fun a => a) (firstN SMeterConf.eqb (fun a => a) l.ms l.ms.length) (fun x => chMeter 5 x) k.ms) ++ goneL SMirrorConf.eqb (fun a => a) (firstN SMirrorConf.eqb (fun a => a) l.xs l.xs.length) (fun x => chMirror 7 x) k.xs) ++ goneL SRoute.eqb (fun a => a) (firstN SRoute.eqb (fun a => a) l.rs l.rs.length) (fun x => chRoute 3 x) k.rs) ++ [chRules rvx])) (fun _ => True) (fun _ => .tuple #[]) (fun _ => zu) (.t rfl) en63 (.cons (.t rfl) .nil) (fun w I => put_ok (chRules rvx) b3 o4 _ w (am w I) (by simp only [List.length_append, List.length_nil]; have g1 := goneL_len eqd (fun a => a) (portsM l) (fun x => chPort 1 x) k.ps; have g2 := goneL_len SMeterConf.eqb (fun a => a) (firstN SMeterConf.eqb (fun a => a) l.ms l.ms.length) (fun x => chMeter 5 x) k.ms; have g3 := goneL_len SMirrorConf.eqb (fun a => a) (firstN SMirrorConf.eqb (fun a => a) l.xs l.xs.length) (fun x => chMirror 7 x) k.xs; have g4 := goneL_len SRoute.eqb (fun a => a) (firstN SRoute.eqb (fun a => a) l.rs l.rs.length) (fun x => chRoute 3 x) k.rs; omega)) (fun o5 _ => ?_)))
        refine hdn (ovr (pN (mtP (X := OV × OV) (_, rvx) trivial (hL := (by (first | rw [if_pos h1, if_pos h1, List.append_nil] | rw [if_neg h1, if_neg h1]); repeat first | exact SubP.nil | refine SubP.cons zr ?_)))))
      · try simp only [nb] at h1
        refine sepOut zr ?_
        refine takeNil eRule 76 ?_
        refine skip (pN (mtP (X := OV × OV) (_, nilSl) trivial (hL := (by (first | rw [if_pos h1, if_pos h1, List.append_nil] | rw [if_neg h1, if_neg h1]); repeat first | exact SubP.nil | refine SubP.cons zr ?_))))
    obtain ⟨q1, rv⟩ := x
    show Sat _ _ [(2, true, .pointer (some ⟨b1, 0, none⟩)), (3, true, .pointer (some ⟨b2, 0, none⟩)), (6, true, .pointer (some ⟨b3, 0, none⟩)), (7, true, .pointer (some ⟨b4, 0, none⟩)), (8, true, .pointer (some ⟨p8, 0, none⟩)), (9, true, .pointer (some ⟨p9, 0, none⟩))] [OR b3 q1 ((((([] ++ goneL eqd (fun a => a) (portsM l) (fun x => chPort 1 x) k.ps) ++ goneL SMeterConf.eqb (fun a => a) (firstN SMeterConf.eqb (fun a => a) l.ms l.ms.length) (fun x => chMeter 5 x) k.ms) ++ goneL SMirrorConf.eqb (fun a => a) (firstN SMirrorConf.eqb (fun a => a) l.xs l.xs.length) (fun x => chMirror 7 x) k.xs) ++ goneL SRoute.eqb (fun a => a) (firstN SRoute.eqb (fun a => a) l.rs l.rs.length) (fun x => chRoute 3 x) k.rs) ++ (if l.us = k.us then [] else [chRules rv])), Var b4 (ovE nilFn) (clo 63 [.pointer (some ⟨b3, 0, none⟩)]) 113, OwnS rv.v eRule (if l.us = k.us then [] else k.us) 76, Var p8 eConfKnown ka.k 84, Var p9 eConfKnown kb.k 84, KnR ka l, KnR kb k, Var b2 eConf b 28, Var b1 eConf a 28]
    refine cut (X := OV) (fun x : OV => True) (fun x : OV => [(2, true, .pointer (some ⟨b1, 0, none⟩)), (3, true, .pointer (some ⟨b2, 0, none⟩)), (6, true, .pointer (some ⟨b3, 0, none⟩)), (7, true, .pointer (some ⟨b4, 0, none⟩)), (8, true, .pointer (some ⟨p8, 0, none⟩)), (9, true, .pointer (some ⟨p9, 0, none⟩))]) (fun x : OV => [OR b3 x (((((([] ++ goneL eqd (fun a => a) (portsM l) (fun x => chPort 1 x) k.ps) ++ goneL SMeterConf.eqb (fun a => a) (firstN SMeterConf.eqb (fun a => a) l.ms l.ms.length) (fun x => chMeter 5 x) k.ms) ++ goneL SMirrorConf.eqb (fun a => a) (firstN SMirrorConf.eqb (fun a => a) l.xs l.xs.length) (fun x => chMirror 7 x) k.xs) ++ goneL SRoute.eqb (fun a => a) (firstN SRoute.eqb (fun a => a) l.rs l.rs.length) (fun x => chRoute 3 x) k.rs) ++ (if l.us = k.us then [] else [chRules rv])) ++ (if a.default = b.default then [] else [chDefault b.default])), Var b4 (ovE nilFn) (clo 63 [.pointer (some ⟨b3, 0, none⟩)]) 113, OwnS rv.v eRule (if l.us = k.us then [] else k.us) 76, Var p8 eConfKnown ka.k 84, Var p9 eConfKnown kb.k 84, KnR ka l, KnR kb k, Var b2 eConf b 28, Var b1 eConf a 28]) ?_ (fun x hx => ?_)
    · refine sg (co (fA 5 (.t rfl)) ?_)
      refine co (Ev.ldx a.default ty3 (.t rfl) SConf.l_default) ?_
      refine co (fA 5 (.t rfl)) ?_
      refine co (Ev.ldx b.default ty3 (.t rfl) SConf.l_default) ?_
      refine co (Ev.neq_i (.t rfl) (.t rfl)) ?_
      refine nP ?_
      first | refine condD rfl (fun h2 => ?_) (fun h2 => ?_) | refine cond rfl (fun h2 => ?_) (fun h2 => ?_)
      · try simp only [nb] at h2
        refine region (co (Ev.ldv ty113 (.t rfl) (Lens.id _)) ?_)
        refine co (fA 5 (.t rfl)) ?_
        refine co (Ev.ldx b.default ty3 (.t rfl) SConf.l_default) ?_
        refine co (Ev.buildS (fs := _) (places := [(0, 1), (1, 1), (2, 19), (21, 4), (25, 3), (28, 1), (29, 1)]) z61 rfl Tryz.underlying61 zk (.cons (.c (v := I 10) rfl) (.cons (.t rfl) .nil)) (Fills.cons SChange.l_kind rfl (Fills.cons SChange.l_default rfl Fills.nil))) ?_
        refine cons (callcr (X := OV) (r := OR b3 q1 ((((([] ++ goneL eqd (fun a => a) (portsM l) (fun x => chPort 1 x) k.ps) ++ goneL SMeterConf.eqb (fun a => a) (firstN SMeterConf.eqb (fun a => a) l.ms l.ms.length) (fun x => chMeter 5 x) k.ms) ++ goneL SMirrorConf.eqb (fun a => a) (firstN SMirrorConf.eqb (fun a => a) l.xs l.xs.length) (fun x => chMirror 7 x) k.xs) ++ goneL SRoute.eqb (fun a => a) (firstN SRoute.eqb (fun a => a) l.rs l.rs.length) (fun x => chRoute 3 x) k.rs) ++ (if l.us = k.us then [] else [chRules rv]))) (r' := fun o2 => OR b3 o2 (((((([] ++ goneL eqd (fun a => a) (portsM l) (fun x => chPort 1 x) k.ps) ++ goneL SMeterConf.eqb (fun a => a) (firstN SMeterConf.eqb (fun a => a) l.ms l.ms.length) (fun x => chMeter 5 x) k.ms) ++ goneL SMirrorConf.eqb (fun a => a) (firstN SMirrorConf.eqb (fun a => a) l.xs l.xs.length) (fun x => chMirror 7 x) k.xs) ++ goneL SRoute.eqb (fun a => a) (firstN SRoute.eqb (fun a => a) l.rs l.rs.length) (fun x => chRoute 3 x) k.rs) ++ (if l.us = k.us then [] else [chRules rv])) ++ [chDefault b.default])) (fun _ => True) (fun _ => .tuple #[]) (fun _ => zu) (.t rfl) en63 (.cons (.t rfl) .nil) (fun w I => put_ok (chDefault b.default) b3 q1 _ w (am w I) (by simp only [List.length_append, List.length_nil]; have g1 := goneL_len eqd (fun a => a) (portsM l) (fun x => chPort 1 x) k.ps; have g2 := goneL_len SMeterConf.eqb (fun a => a) (firstN SMeterConf.eqb (fun a => a) l.ms l.ms.length) (fun x => chMeter 5 x) k.ms; have g3 := goneL_len SMirrorConf.eqb (fun a => a) (firstN SMirrorConf.eqb (fun a => a) l.xs l.xs.length) (fun x => chMirror 7 x) k.xs; have g4 := goneL_len SRoute.eqb (fun a => a) (firstN SRoute.eqb (fun a => a) l.rs l.rs.length) (fun x => chRoute 3 x) k.rs; have g5 := ite_len (p := l.us = k.us) (chRules rv); omega)) (fun o6 _ => ?_))
        refine nP (mtP (X := OV) (_) trivial (hL := (by (first | rw [if_pos h2, List.append_nil] | rw [if_neg h2]); repeat first | exact SubP.nil | refine SubP.cons zr ?_)))
      · try simp only [nb] at h2
        refine skip (pN (mtP (X := OV) (_) trivial (hL := (by (first | rw [if_pos h2, List.append_nil] | rw [if_neg h2]); repeat first | exact SubP.nil | refine SubP.cons zr ?_))))
    obtain ⟨q2, rfl⟩ : ∃ y, y = x := ⟨x, rfl⟩
    show Sat _ _ [(2, true, .pointer (some ⟨b1, 0, none⟩)), (3, true, .pointer (some ⟨b2, 0, none⟩)), (6, true, .pointer (some ⟨b3, 0, none⟩)), (7, true, .pointer (some ⟨b4, 0, none⟩)), (8, true, .pointer (some ⟨p8, 0, none⟩)), (9, true, .pointer (some ⟨p9, 0, none⟩))] [OR b3 q2 (((((([] ++ goneL eqd (fun a => a) (portsM l) (fun x => chPort 1 x) k.ps) ++ goneL SMeterConf.eqb (fun a => a) (firstN SMeterConf.eqb (fun a => a) l.ms l.ms.length) (fun x => chMeter 5 x) k.ms) ++ goneL SMirrorConf.eqb (fun a => a) (firstN SMirrorConf.eqb (fun a => a) l.xs l.xs.length) (fun x => chMirror 7 x) k.xs) ++ goneL SRoute.eqb (fun a => a) (firstN SRoute.eqb (fun a => a) l.rs l.rs.length) (fun x => chRoute 3 x) k.rs) ++ (if l.us = k.us then [] else [chRules rv])) ++ (if a.default = b.default then [] else [chDefault b.default])), Var b4 (ovE nilFn) (clo 63 [.pointer (some ⟨b3, 0, none⟩)]) 113, OwnS rv.v eRule (if l.us = k.us then [] else k.us) 76, Var p8 eConfKnown ka.k 84, Var p9 eConfKnown kb.k 84, KnR ka l, KnR kb k, Var b2 eConf b 28, Var b1 eConf a 28]
    refine seq (sepIn (r := Var b4 (ovE nilFn) (clo 63 [.pointer (some ⟨b3, 0, none⟩)]) 113) (s := OR b3 q2 (((((([] ++ goneL eqd (fun a => a) (portsM l) (fun x => chPort 1 x) k.ps) ++ goneL SMeterConf.eqb (fun a => a) (firstN SMeterConf.eqb (fun a => a) l.ms l.ms.length) (fun x => chMeter 5 x) k.ms) ++ goneL SMirrorConf.eqb (fun a => a) (firstN SMirrorConf.eqb (fun a => a) l.xs l.xs.length) (fun x => chMirror 7 x) k.xs) ++ goneL SRoute.eqb (fun a => a) (firstN SRoute.eqb (fun a => a) l.rs l.rs.length) (fun x => chRoute 3 x) k.rs) ++ (if l.us = k.us then [] else [chRules rv])) ++ (if a.default = b.default then [] else [chDefault b.default]))) (Rem.tail Rem.head) Rem.head ?_)
    refine region (co (fA 1 (.t rfl)) ?_)
    refine co (Ev.ldx a.routes ty23 (.t rfl) SConf.l_routes) ?_
    refine co (fA 1 (.t rfl)) ?_
    refine co (Ev.ldv ty81 (.t rfl) SConfKnown.l_routes) ?_
    refine co (Ev.makeFunc (f := 81) (.cons (.t rfl) .nil)) ?_
    refine cons (callr (X := OV) (r := DR b4 b3 q2 (((((([] ++ goneL eqd (fun a => a) (portsM l) (fun x => chPort 1 x) k.ps) ++ goneL SMeterConf.eqb (fun a => a) (firstN SMeterConf.eqb (fun a => a) l.ms l.ms.length) (fun x => chMeter 5 x) k.ms) ++ goneL SMirrorConf.eqb (fun a => a) (firstN SMirrorConf.eqb (fun a => a) l.xs l.xs.length) (fun x => chMirror 7 x) k.xs) ++ goneL SRoute.eqb (fun a => a) (firstN SRoute.eqb (fun a => a) l.rs l.rs.length) (fun x => chRoute 3 x) k.rs) ++ (if l.us = k.us then [] else [chRules rv])) ++ (if a.default = b.default then [] else [chDefault b.default]))) (r' := fun o2 => DR b4 b3 o2 ((((((([] ++ goneL eqd (fun a => a) (portsM l) (fun x => chPort 1 x) k.ps) ++ goneL SMeterConf.eqb (fun a => a) (firstN SMeterConf.eqb (fun a => a) l.ms l.ms.length) (fun x => chMeter 5 x) k.ms) ++ goneL SMirrorConf.eqb (fun a => a) (firstN SMirrorConf.eqb (fun a => a) l.xs l.xs.length) (fun x => chMirror 7 x) k.xs) ++ goneL SRoute.eqb (fun a => a) (firstN SRoute.eqb (fun a => a) l.rs l.rs.length) (fun x => chRoute 3 x) k.rs) ++ (if l.us = k.us then [] else [chRules rv])) ++ (if a.default = b.default then [] else [chDefault b.default])) ++ goneL SPrefix.eqb (fun a => a.to_) (routesM k) (fun x => chRoute 4 (onlyR x)) l.rs)) (fun _ => True) (fun _ => .tuple #[]) (fun _ => zu) (by repeat first | exact mH | apply mT | apply mA) en79 (.cons (.t rfl) (.cons (.t rfl) (.cons .f (.cons (.t rfl) .nil)))) (fun w I => gone_50_52 80 81 [.pointer (some ⟨b4, 0, none⟩)] (fun a => a.to_) (fun x => chRoute 4 (onlyR x)) kb.b2 (routesM k) (DR b4 b3) q2 _ _ l.rs w en80 en81 (am w I) (fun w1 k1 => ha.rs.keep0 (I.but zr k1).keeps) (fun w1 k1 => by have I1 := I.but zr k1; exact (known_of (x := kb) (l := k) (by repeat first | exact mH | apply mT | apply mA) w1 I1).rs) (key6_at _ _) (tell7_at b4 b3) (by simp only [List.length_append, List.length_nil]; have g1 := goneL_len eqd (fun a => a) (portsM l) (fun x => chPort 1 x) k.ps; have g2 := goneL_len SMeterConf.eqb (fun a => a) (firstN SMeterConf.eqb (fun a => a) l.ms l.ms.length) (fun x => chMeter 5 x) k.ms; have g3 := goneL_len SMirrorConf.eqb (fun a => a) (firstN SMirrorConf.eqb (fun a => a) l.xs l.xs.length) (fun x => chMirror 7 x) k.xs; have g4 := goneL_len SRoute.eqb (fun a => a) (firstN SRoute.eqb (fun a => a) l.rs l.rs.length) (fun x => chRoute 3 x) k.rs; have g5 := ite_len (p := l.us = k.us) (chRules rv); have g6 := ite_len (p := a.default = b.default) (chDefault b.default); omega)) (fun o7 _ => ?_))
    refine nP (sg (co (fA 3 (.t rfl)) ?_))
    refine co (Ev.ldx a.meters ty25 (.t rfl) SConf.l_meters) ?_
    refine co (fA 3 (.t rfl)) ?_
    refine co (Ev.ldv ty82 (.t rfl) SConfKnown.l_meters) ?_
    refine co (Ev.makeFunc (f := 84) (.cons (.t rfl) .nil)) ?_
    refine cons (callr (X := OV) (r := DR b4 b3 o7 ((((((([] ++ goneL eqd (fun a => a) (portsM l) (fun x => chPort 1 x) k.ps) ++ goneL SMeterConf.eqb (fun a => a) (firstN SMeterConf.eqb (fun a => a) l.ms l.ms.length) (fun x => chMeter 5 x) k.ms) ++ goneL SMirrorConf.eqb (fun a => a) (firstN SMirrorConf.eqb (fun a => a) l.xs l.xs.length) (fun x => chMirror 7 x) k.xs) ++ goneL SRoute.eqb (fun a => a) (firstN SRoute.eqb (fun a => a) l.rs l.rs.length) (fun x => chRoute 3 x) k.rs) ++ (if l.us = k.us then [] else [chRules rv])) ++ (if a.default = b.default then [] else [chDefault b.default])) ++ goneL SPrefix.eqb (fun a => a.to_) (routesM k) (fun x => chRoute 4 (onlyR x)) l.rs)) (r' := fun o2 => DR b4 b3 o2 (((((((([] ++ goneL eqd (fun a => a) (portsM l) (fun x => chPort 1 x) k.ps) ++ goneL SMeterConf.eqb (fun a => a) (firstN SMeterConf.eqb (fun a => a) l.ms l.ms.length) (fun x => chMeter 5 x) k.ms) ++ goneL SMirrorConf.eqb (fun a => a) (firstN SMirrorConf.eqb (fun a => a) l.xs l.xs.length) (fun x => chMirror 7 x) k.xs) ++ goneL SRoute.eqb (fun a => a) (firstN SRoute.eqb (fun a => a) l.rs l.rs.length) (fun x => chRoute 3 x) k.rs) ++ (if l.us = k.us then [] else [chRules rv])) ++ (if a.default = b.default then [] else [chDefault b.default])) ++ goneL SPrefix.eqb (fun a => a.to_) (routesM k) (fun x => chRoute 4 (onlyR x)) l.rs) ++ goneL eqs (fun a => a.name) (metersM k) (fun x => chMeter 6 (onlyM x)) l.ms)) (fun _ => True) (fun _ => .tuple #[]) (fun _ => zu) (by repeat first | exact mH | apply mT | apply mA) en82 (.cons (.t rfl) (.cons (.t rfl) (.cons .f (.cons (.t rfl) .nil)))) (fun w I => gone_9_57 83 84 [.pointer (some ⟨b4, 0, none⟩)] (fun a => a.name) (fun x => chMeter 6 (onlyM x)) kb.b4 (metersM k) (DR b4 b3) o7 _ _ l.ms w en83 en84 (am w I) (fun w1 k1 => ha.ms.keep0 (I.but zr k1).keeps) (fun w1 k1 => by have I1 := I.but zr k1; exact (known_of (x := kb) (l := k) (by repeat first | exact mH | apply mT | apply mA) w1 I1).ms) (key8_at _ _) (tell9_at b4 b3) (by simp only [List.length_append, List.length_nil]; have g1 := goneL_len eqd (fun a => a) (portsM l) (fun x => chPort 1 x) k.ps; have g2 := goneL_len SMeterConf.eqb (fun a => a) (firstN SMeterConf.eqb (fun a => a) l.ms l.ms.length) (fun x => chMeter 5 x) k.ms; have g3 := goneL_len SMirrorConf.eqb (fun a => a) (firstN SMirrorConf.eqb (fun a => a) l.xs l.xs.length) (fun x => chMirror 7 x) k.xs; have g4 := goneL_len SRoute.eqb (fun a => a) (firstN SRoute.eqb (fun a => a) l.rs l.rs.length) (fun x => chRoute 3 x) k.rs; have g5 := ite_len (p := l.us = k.us) (chRules rv); have g6 := ite_len (p := a.default = b.default) (chDefault b.default); have g7 := goneL_len SPrefix.eqb (fun a => a.to_) (routesM k) (fun x => chRoute 4 (onlyR x)) l.rs; omega)) (fun o8 _ => ?_))
    refine nP (sg (co (fA 4 (.t rfl)) ?_))
    refine co (Ev.ldx a.mirrors ty26 (.t rfl) SConf.l_mirrors) ?_
    refine co (fA 4 (.t rfl)) ?_
    refine co (Ev.ldv ty82 (.t rfl) SConfKnown.l_mirrors) ?_
    refine co (Ev.makeFunc (f := 87) (.cons (.t rfl) .nil)) ?_
    refine cons (callr (X := OV) (r := DR b4 b3 o8 (((((((([] ++ goneL eqd (fun a => a) (portsM l) (fun x => chPort 1 x) k.ps) ++ goneL SMeterConf.eqb (fun a => a) (firstN SMeterConf.eqb (fun a => a) l.ms l.ms.length) (fun x => chMeter 5 x) k.ms) ++ goneL SMirrorConf.eqb (fun a => a) (firstN SMirrorConf.eqb (fun a => a) l.xs l.xs.length) (fun x => chMirror 7 x) k.xs) ++ goneL SRoute.eqb (fun a => a) (firstN SRoute.eqb (fun a => a) l.rs l.rs.length) (fun x => chRoute 3 x) k.rs) ++ (if l.us = k.us then [] else [chRules rv])) ++ (if a.default = b.default then [] else [chDefault b.default])) ++ goneL SPrefix.eqb (fun a => a.to_) (routesM k) (fun x => chRoute 4 (onlyR x)) l.rs) ++ goneL eqs (fun a => a.name) (metersM k) (fun x => chMeter 6 (onlyM x)) l.ms)) (r' := fun o2 => DR b4 b3 o2 ((((((((([] ++ goneL eqd (fun a => a) (portsM l) (fun x => chPort 1 x) k.ps) ++ goneL SMeterConf.eqb (fun a => a) (firstN SMeterConf.eqb (fun a => a) l.ms l.ms.length) (fun x => chMeter 5 x) k.ms) ++ goneL SMirrorConf.eqb (fun a => a) (firstN SMirrorConf.eqb (fun a => a) l.xs l.xs.length) (fun x => chMirror 7 x) k.xs) ++ goneL SRoute.eqb (fun a => a) (firstN SRoute.eqb (fun a => a) l.rs l.rs.length) (fun x => chRoute 3 x) k.rs) ++ (if l.us = k.us then [] else [chRules rv])) ++ (if a.default = b.default then [] else [chDefault b.default])) ++ goneL SPrefix.eqb (fun a => a.to_) (routesM k) (fun x => chRoute 4 (onlyR x)) l.rs) ++ goneL eqs (fun a => a.name) (metersM k) (fun x => chMeter 6 (onlyM x)) l.ms) ++ goneL eqs (fun a => a.name) (mirrorsM k) (fun x => chMirror 8 (onlyX x)) l.xs)) (fun _ => True) (fun _ => .tuple #[]) (fun _ => zu) (by repeat first | exact mH | apply mT | apply mA) en85 (.cons (.t rfl) (.cons (.t rfl) (.cons .f (.cons (.t rfl) .nil)))) (fun w I => gone_9_59 86 87 [.pointer (some ⟨b4, 0, none⟩)] (fun a => a.name) (fun x => chMirror 8 (onlyX x)) kb.b5 (mirrorsM k) (DR b4 b3) o8 _ _ l.xs w en86 en87 (am w I) (fun w1 k1 => ha.xs.keep0 (I.but zr k1).keeps) (fun w1 k1 => by have I1 := I.but zr k1; exact (known_of (x := kb) (l := k) (by repeat first | exact mH | apply mT | apply mA) w1 I1).xs) (key10_at _ _) (tell11_at b4 b3) (by simp only [List.length_append, List.length_nil]; have g1 := goneL_len eqd (fun a => a) (portsM l) (fun x => chPort 1 x) k.ps; have g2 := goneL_len SMeterConf.eqb (fun a => a) (firstN SMeterConf.eqb (fun a => a) l.ms l.ms.length) (fun x => chMeter 5 x) k.ms; have g3 := goneL_len SMirrorConf.eqb (fun a => a) (firstN SMirrorConf.eqb (fun a => a) l.xs l.xs.length) (fun x => chMirror 7 x) k.xs; have g4 := goneL_len SRoute.eqb (fun a => a) (firstN SRoute.eqb (fun a => a) l.rs l.rs.length) (fun x => chRoute 3 x) k.rs; have g5 := ite_len (p := l.us = k.us) (chRules rv); have g6 := ite_len (p := a.default = b.default) (chDefault b.default); have g7 := goneL_len SPrefix.eqb (fun a => a.to_) (routesM k) (fun x => chRoute 4 (onlyR x)) l.rs; have g8 := goneL_len eqs (fun a => a.name) (metersM k) (fun x => chMeter 6 (onlyM x)) l.ms; omega)) (fun o9 _ => ?_))
    refine nP (sg (co (fA 0 (.t rfl)) ?_))
    refine co (Ev.ldx a.ports ty22 (.t rfl) SConf.l_ports) ?_
    refine co (fA 0 (.t rfl)) ?_
    refine co (Ev.ldv ty80 (.t rfl) SConfKnown.l_ports) ?_
    refine co (Ev.makeFunc (f := 88) (.cons (.t rfl) .nil)) ?_
    refine cons (callr (X := OV) (r := DR b4 b3 o9 ((((((((([] ++ goneL eqd (fun a => a) (portsM l) (fun x => chPort 1 x) k.ps) ++ goneL SMeterConf.eqb (fun a => a) (firstN SMeterConf.eqb (fun a => a) l.ms l.ms.length) (fun x => chMeter 5 x) k.ms) ++ goneL SMirrorConf.eqb (fun a => a) (firstN SMirrorConf.eqb (fun a => a) l.xs l.xs.length) (fun x => chMirror 7 x) k.xs) ++ goneL SRoute.eqb (fun a => a) (firstN SRoute.eqb (fun a => a) l.rs l.rs.length) (fun x => chRoute 3 x) k.rs) ++ (if l.us = k.us then [] else [chRules rv])) ++ (if a.default = b.default then [] else [chDefault b.default])) ++ goneL SPrefix.eqb (fun a => a.to_) (routesM k) (fun x => chRoute 4 (onlyR x)) l.rs) ++ goneL eqs (fun a => a.name) (metersM k) (fun x => chMeter 6 (onlyM x)) l.ms) ++ goneL eqs (fun a => a.name) (mirrorsM k) (fun x => chMirror 8 (onlyX x)) l.xs)) (r' := fun o2 => DR b4 b3 o2 (((((((((([] ++ goneL eqd (fun a => a) (portsM l) (fun x => chPort 1 x) k.ps) ++ goneL SMeterConf.eqb (fun a => a) (firstN SMeterConf.eqb (fun a => a) l.ms l.ms.length) (fun x => chMeter 5 x) k.ms) ++ goneL SMirrorConf.eqb (fun a => a) (firstN SMirrorConf.eqb (fun a => a) l.xs l.xs.length) (fun x => chMirror 7 x) k.xs) ++ goneL SRoute.eqb (fun a => a) (firstN SRoute.eqb (fun a => a) l.rs l.rs.length) (fun x => chRoute 3 x) k.rs) ++ (if l.us = k.us then [] else [chRules rv])) ++ (if a.default = b.default then [] else [chDefault b.default])) ++ goneL SPrefix.eqb (fun a => a.to_) (routesM k) (fun x => chRoute 4 (onlyR x)) l.rs) ++ goneL eqs (fun a => a.name) (metersM k) (fun x => chMeter 6 (onlyM x)) l.ms) ++ goneL eqs (fun a => a.name) (mirrorsM k) (fun x => chMirror 8 (onlyX x)) l.xs) ++ goneL eqd (fun a => a) (portsM k) (fun x => chPort 2 x) l.ps)) (fun _ => True) (fun _ => .tuple #[]) (fun _ => zu) (by repeat first | exact mH | apply mT | apply mA) en64 (.cons (.t rfl) (.cons (.t rfl) (.cons .f (.cons (.t rfl) .nil)))) (fun w I => gone_3_3 65 88 [.pointer (some ⟨b4, 0, none⟩)] (fun a => a) (fun x => chPort 2 x) kb.b1 (portsM k) (DR b4 b3) o9 _ _ l.ps w en65 en88 (am w I) (fun w1 k1 => ha.ps.keep0 (I.but zr k1).keeps) (fun w1 k1 => by have I1 := I.but zr k1; exact (known_of (x := kb) (l := k) (by repeat first | exact mH | apply mT | apply mA) w1 I1).ps) (its_i_at _ _) (tell12_at b4 b3) (by simp only [List.length_append, List.length_nil]; have g1 := goneL_len eqd (fun a => a) (portsM l) (fun x => chPort 1 x) k.ps; have g2 := goneL_len SMeterConf.eqb (fun a => a) (firstN SMeterConf.eqb (fun a => a) l.ms l.ms.length) (fun x => chMeter 5 x) k.ms; have g3 := goneL_len SMirrorConf.eqb (fun a => a) (firstN SMirrorConf.eqb (fun a => a) l.xs l.xs.length) (fun x => chMirror 7 x) k.xs; have g4 := goneL_len SRoute.eqb (fun a => a) (firstN SRoute.eqb (fun a => a) l.rs l.rs.length) (fun x => chRoute 3 x) k.rs; have g5 := ite_len (p := l.us = k.us) (chRules rv); have g6 := ite_len (p := a.default = b.default) (chDefault b.default); have g7 := goneL_len SPrefix.eqb (fun a => a.to_) (routesM k) (fun x => chRoute 4 (onlyR x)) l.rs; have g8 := goneL_len eqs (fun a => a.name) (metersM k) (fun x => chMeter 6 (onlyM x)) l.ms; have g9 := goneL_len eqs (fun a => a.name) (mirrorsM k) (fun x => chMirror 8 (onlyX x)) l.xs; omega)) (fun o10 _ => ?_))
    refine nP (seq (sepOut (r := Var b4 (ovE nilFn) (clo 63 [.pointer (some ⟨b3, 0, none⟩)]) 113) (s := OR b3 o10 (((((((((([] ++ goneL eqd (fun a => a) (portsM l) (fun x => chPort 1 x) k.ps) ++ goneL SMeterConf.eqb (fun a => a) (firstN SMeterConf.eqb (fun a => a) l.ms l.ms.length) (fun x => chMeter 5 x) k.ms) ++ goneL SMirrorConf.eqb (fun a => a) (firstN SMirrorConf.eqb (fun a => a) l.xs l.xs.length) (fun x => chMirror 7 x) k.xs) ++ goneL SRoute.eqb (fun a => a) (firstN SRoute.eqb (fun a => a) l.rs l.rs.length) (fun x => chRoute 3 x) k.rs) ++ (if l.us = k.us then [] else [chRules rv])) ++ (if a.default = b.default then [] else [chDefault b.default])) ++ goneL SPrefix.eqb (fun a => a.to_) (routesM k) (fun x => chRoute 4 (onlyR x)) l.rs) ++ goneL eqs (fun a => a.name) (metersM k) (fun x => chMeter 6 (onlyM x)) l.ms) ++ goneL eqs (fun a => a.name) (mirrorsM k) (fun x => chMirror 8 (onlyX x)) l.xs) ++ goneL eqd (fun a => a) (portsM k) (fun x => chPort 2 x) l.ps)) zr ?_))
    refine sepOut (Rem.tail Rem.head) ?_
    refine region (co (Ev.ldv ty41 (.t rfl) (Lens.id _)) ?_)
    refine asn rfl (co (Ev.assign (.c (v := I 0) rfl)) ?_)
    refine nP (ret (done rfl (.tmp rfl (.tmp rfl .nil)) (fun w I => ?_)))
    exact retNP (o10, rv) trivial (by unfold diffE; rw [hbo]; rfl) (by unfold diffL diffR; rw [hbo, if_pos rfl, if_pos rfl]; exact (by repeat first | exact SubP.nil | refine SubP.cons zr ?_)) w I
end Go.Proofs.YtnoobdijbpmjkaaGreat
