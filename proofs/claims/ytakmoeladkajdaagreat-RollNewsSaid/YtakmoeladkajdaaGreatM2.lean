/- Part. -/
import Derived.Test.YtakmoeladkajdaaGreatM1
set_option linter.unusedVariables false
set_option linter.unusedSimpArgs false
set_option linter.unusedSectionVars false
namespace Go.Proofs.YtakmoeladkajdaaGreat
open Go Go.Gx
structure SConfFaults where
  l : OV
  at_ : Int
def SConfFaults.to : (OV × Int) → SConfFaults := fun x => ⟨x.1, x.2⟩
def SConfFaults.of : SConfFaults → (OV × Int) := fun x => (x.l, x.at_)
def eConfFaults : Enc SConfFaults := isoE (prodE (ovE nilSl) iE) SConfFaults.to SConfFaults.of
def SConfFaults.l_l : Lens eConfFaults (ovE nilSl) 0 := lIso _ SConfFaults.to SConfFaults.of (fun _ => rfl) (lFst (ovE nilSl) iE)
@[simp] theorem SConfFaults.get_l (x : SConfFaults) : SConfFaults.l_l.get x = x.l := rfl
@[simp] theorem SConfFaults.set_l (x : SConfFaults) (y : OV) : SConfFaults.l_l.set x y = { x with l := y } := rfl
def SConfFaults.l_at_ : Lens eConfFaults iE 1 := lIso _ SConfFaults.to SConfFaults.of (fun _ => rfl) (Lens.comp (lSnd (ovE nilSl) iE) (Lens.id iE))
@[simp] theorem SConfFaults.get_at_ (x : SConfFaults) : SConfFaults.l_at_.get x = x.at_ := rfl
@[simp] theorem SConfFaults.set_at_ (x : SConfFaults) (y : Int) : SConfFaults.l_at_.set x y = { x with at_ := y } := rfl
structure SFault where
  code : Int
  at_ : Int
def SFault.to : (Int × Int) → SFault := fun x => ⟨x.1, x.2⟩
def SFault.of : SFault → (Int × Int) := fun x => (x.code, x.at_)
def eFault : Enc SFault := isoE (prodE iE iE) SFault.to SFault.of
def SFault.l_code : Lens eFault iE 0 := lIso _ SFault.to SFault.of (fun _ => rfl) (lFst iE iE)
@[simp] theorem SFault.get_code (x : SFault) : SFault.l_code.get x = x.code := rfl
@[simp] theorem SFault.set_code (x : SFault) (y : Int) : SFault.l_code.set x y = { x with code := y } := rfl
def SFault.l_at_ : Lens eFault iE 1 := lIso _ SFault.to SFault.of (fun _ => rfl) (Lens.comp (lSnd iE iE) (Lens.id iE))
@[simp] theorem SFault.get_at_ (x : SFault) : SFault.l_at_.get x = x.at_ := rfl
@[simp] theorem SFault.set_at_ (x : SFault) (y : Int) : SFault.l_at_.set x y = { x with at_ := y } := rfl
def faultsUp (e : Nat → Int) (d : Int) : Nat → List SFault
  | 0 => []
  | n + 1 => faultsUp e d n ++ (if e n = 0 then [] else [⟨e n, d + n⟩])
theorem faultsUp_len (e : Nat → Int) (d : Int) : ∀ n, (faultsUp e d n).length ≤ n
  | 0 => Nat.le_refl _
  | n + 1 => by
    have := faultsUp_len e d n
    unfold faultsUp
    rw [List.length_append]
    split <;> simp <;> omega
theorem faultsUp_ok {e : Nat → Int} {d i : Int} (h : 0 ≤ i) (he : e i.toNat = 0) : faultsUp e d (i + 1).toNat = faultsUp e d i.toNat := by
  rw [show (i + 1).toNat = i.toNat + 1 by omega, faultsUp, if_pos he, List.append_nil]
theorem faultsUp_bad {e : Nat → Int} {d i : Int} (h : 0 ≤ i) (he : ¬ e i.toNat = 0) : faultsUp e d (i + 1).toNat = faultsUp e d i.toNat ++ [⟨e i.toNat, d + i⟩] := by
  rw [show (i + 1).toNat = i.toNat + 1 by omega, faultsUp, if_neg he]
  have : ((i.toNat : Nat) : Int) = i := by omega
  rw [this]
def listG (e : Nat → Int) (d : Int) (n most : Nat) : List SFault := faultsUp e d (min n most) ++ (if most < n then [⟨4, d + most⟩] else [])
abbrev FR (b : Nat) (o : OV) (fs : List SFault) (d : Int) : Res := Sep (Var b eConfFaults ⟨o, d⟩ 210) (OwnS o.v eFault fs 168)
theorem getD_take'' {α : Type} (l : List α) (m i : Nat) (d : α) (h : i < m) : (l.take m).getD i d = l.getD i d := by simp [List.getD, List.getElem?_take, h]
theorem ty119 : TyOK Tryz.prog 119 (ovE nilSl) := TyOK.mk' zk zk
theorem z168 : (Tryz.prog.info? 168).bind (·.zero) = some (eFault.val eFault.zero) := by kernel_rfl
theorem ty168 : TyOK Tryz.prog 168 eFault := TyOK.mk' zk zk
theorem zb168 : (Tryz.prog.info? 168).map (fun i => (i.zero, i.bytes)) = some (some (eFault.val eFault.zero), 16) := by kernel_rfl
theorem zs168 : (eFault.val eFault.zero).cells.size = eFault.size := by rw [Enc.cells_val, List.size_toArray, Enc.len]
set_option maxRecDepth 8000 in
theorem list_3 (f : Nat) (fst cap : List Value) (g : Int → Int → Int) (D : Int → Int → Prop) (b : Nat) (o : OV) (fs : List SFault) (d : Int) (u : Value) (xs : List Int) (most : Nat) (w : World) (hen : Gx.Enters Tryz.prog f) (h : At (FR b o fs d) w) (hxs : ∀ w1, Keeps (FR b o fs d).foot w w1 → IsSl iE w1 u xs) (hk : FnB2 Tryz.prog f fst cap (FR b o fs d).foot w iE iE iE D g) (hD : ∀ i : Nat, i < xs.length → D (xs.getD i iE.zero) i) (hd : 0 ≤ d ∧ d + xs.length ≤ 4611686018427387904) (hf : fs.length + most ≤ 100000) : Calls Tryz.prog 93 #[.pointer (some ⟨b, 0, none⟩), u, I most, (bnd f fst cap).v] w (RetR w (FR b o fs d) (fun _ : OV => True) (fun _ => .tuple #[]) (fun o2 => FR b o2 (fs ++ listG (fun j0 : Nat => g (xs.getD j0 iE.zero) j0) d xs.length most) (d + xs.length))) := by
  obtain ⟨m, hm⟩ : ∃ m : Nat, (min (xs.length : Int) (most : Int)) = (m : Int) := ⟨min xs.length most, by omega⟩
  have hm2 : m = min xs.length most := by omega
  have hle := (hxs w (Keeps.refl _ _)).le
  have htl : (xs.take m).length = m := by simp; omega
  refine enter (FR b o fs d).foot 76 [FR b o fs d] Tryz.func93 rfl rfl (Nat.le_of_ble_eq_true rfl) (start_at h) ?_
  refine sepOut Rem.head ?_
  refine seq (sg (mv rfl (mv rfl (co (Ev.len Tryz.underlying22 (.t rfl) (fun w I => hxs w I.keeps)) ?_))))
  refine mv rfl (co (Ev.to (v' := I ((m : Nat) : Int)) (Ev.min_i (.t rfl) (.t rfl)) (by rw [hm])) ?_)
  refine co (Ev.sliceH Tryz.underlying22 ty3 (.t rfl) (.t rfl) (fun w I => hxs w I.keeps) (fun _ => zo)) ?_
  refine co (Ev.len Tryz.underlying22 (.t rfl) (fun w I => by have := (hxs w I.keeps).sub (l := 0) (k := m) (by omega) (by omega); simpa using this)) ?_
  refine co (Ev.move (.c (v := I 0) rfl)) ?_
  refine nP (block (lp (X := Int × OV) (fun x : Int × OV => (0 ≤ x.1 ∧ x.1 ≤ m)) (fun x : Int × OV => [dz, (0, true, .pointer (some ⟨b, 0, none⟩)), (1, true, u), (2, true, I most), (3, true, (bnd f fst cap).v), (16, true, subS iE.size u 0 m), (17, true, I (xs.take m).length), (18, true, I x.1)]) (fun x : Int × OV => [Var b eConfFaults ⟨x.2, d⟩ 210, OwnS x.2.v eFault (fs ++ faultsUp (fun j0 : Nat => g (xs.getD j0 iE.zero) j0) d x.1.toNat) 168]) (fun x : Int × OV => ((m : Int) - x.1).toNat) (0, o) ?_ (fun x hx => ?_) (hL := (by simp only [show (0 : Int).toNat = 0 from rfl, faultsUp, List.append_nil]; repeat first | exact sR | exact sN | apply sC | apply sS | apply sA))))
  · omega
  obtain ⟨i, q⟩ := x
  have hi : 0 ≤ i ∧ i ≤ m := hx
  clear hx
  show Sat _ _ [dz, (0, true, .pointer (some ⟨b, 0, none⟩)), (1, true, u), (2, true, I most), (3, true, (bnd f fst cap).v), (16, true, subS iE.size u 0 m), (17, true, I (xs.take m).length), (18, true, I i)] [Var b eConfFaults ⟨q, d⟩ 210, OwnS q.v eFault (fs ++ faultsUp (fun j0 : Nat => g (xs.getD j0 iE.zero) j0) d i.toNat) 168]
  refine sg (co (Ev.lss_i (.t rfl) (.t rfl)) ?_)
  refine nP (seq ?_)
  first | refine condD rfl (fun h0 => ?_) (fun h0 => ?_) | refine cond rfl (fun h0 => ?_) (fun h0 => ?_)
  · try simp only [Gx.nb] at h0
    refine skip (pN (seq (block (sg (mv rfl (co (Ev.indexAddr Tryz.underlying22 ty3 (.t rfl) (.t rfl) (fun w I => by have := (hxs w I.keeps).sub (l := 0) (k := m) (by omega) (by omega); simpa using this) (fun _ => by omega)) ?_))))))
    refine co (Ev.to (v' := iE.val (xs.getD i.toNat iE.zero)) (Ev.loadS0 ty3 (.t rfl) (fun w I => by have := (hxs w I.keeps).sub (l := 0) (k := m) (by omega) (by omega); simpa using this) (fun _ => by omega)) (congrArg iE.val (getD_take'' xs m i.toNat _ (by omega)))) ?_
    refine asn rfl (asn rfl (nP (sg (mv rfl (mv rfl (mv rfl (cons (callbv (.t rfl) hen (.cons (.t rfl) (.cons (.t rfl) .nil)) (fun w I => hk (xs.getD i.toNat iE.zero) i w (by have := hD i.toNat (by omega); rwa [show ((i.toNat : Nat) : Int) = i by omega] at this) I.keeps) ?_))))))))
    refine asn rfl (nP (sg (mv rfl (co (Ev.neq_i (.t rfl) (.c (v := I 0) rfl)) ?_))))
    refine nP ?_
    first | refine condD rfl (fun h1 => ?_) (fun h1 => ?_) | refine cond rfl (fun h1 => ?_) (fun h1 => ?_)
    · try simp only [Gx.nb] at h1
      have ei : ((i.toNat : Nat) : Int) = i := by omega
      have hst := faultsUp_bad (e := (fun j0 : Nat => g (xs.getD j0 iE.zero) j0)) (d := d) hi.1 (by (try dsimp only); rw [ei]; exact h1)
      (try dsimp only at hst)
      rw [ei] at hst
      refine draw [] zk ?_
      refine tk 0 rfl (Ev.move (.t rfl)) ?_
      refine tk 1 rfl (Ev.move (.t rfl)) ?_
      refine tk 2 rfl (Ev.nilCheck (.t rfl)) ?_
      refine tk 3 rfl (fA 0 (.t rfl)) ?_
      refine tk 5 rfl (Ev.move (.t rfl)) ?_
      refine tk 6 rfl (Ev.move (.t rfl)) ?_
      refine tk 7 rfl (Ev.nilCheck (.t rfl)) ?_
      refine tk 8 rfl (fA 1 (.t rfl)) ?_
      refine tk 10 rfl (Ev.move (.t rfl)) ?_
      refine all [4, 9] zk (by decide) (.cons rfl ?_ (.cons rfl ?_ .nil))
      · refine (opv (Ev.ldv ty119 (.t rfl) SConfFaults.l_l) ?_)
        refine hdn (al1 9 rfl ((opv (Ev.ldv ty3 (.t rfl) SConfFaults.l_at_) ?_)))
        refine hdn (tk 11 rfl (Ev.add_i (.t rfl) (.t rfl) (fun _ => by simp; omega)) ?_)
        refine tk 12 rfl (Ev.buildS (fs := _) (places := [(0, 1), (1, 1)]) z168 rfl Tryz.underlying168 zk (.cons (.t rfl) (.cons (.t rfl) .nil)) (Fills.cons SFault.l_code rfl (Fills.cons SFault.l_at_ rfl Fills.nil))) ?_
        refine al1 13 rfl ((buildSlice (E := eFault) Tryz.underlying119 ty168 z168 (.cons (.t rfl) .nil) rfl rfl (fun v1 => ?_)))
        refine hdn (al1 14 rfl ((app (E := eFault) Tryz.underlying119 ty168 zb168 zs168 (.t rfl) (.t rfl) (fun v2 => ?_) (hby := ⟨by (show _ ≤ 9223372036854775807); have := faultsUp_len (fun j0 : Nat => g (xs.getD j0 iE.zero) j0) d i.toNat; simp only [List.length_append, List.length_cons, List.length_nil]; omega, by have := faultsUp_len (fun j0 : Nat => g (xs.getD j0 iE.zero) j0) d i.toNat; simp only [List.length_append, List.length_cons, List.length_nil]; omega⟩))))
        refine hdn (tk 15 rfl (Ev.nilCheck (.t rfl)) ?_)
        refine tk 16 rfl (fA 0 (.t rfl)) ?_
        refine al1 17 rfl ((stv ty119 SConfFaults.l_l (.t rfl) (.t rfl) ?_))
        refine hdn (ovr (bN (pN (region (co (Ev.add_i (.t rfl) (.c (v := I 1) rfl) (fun _ => zo)) ?_)))))
        refine mv rfl (nP (nx (X := Int × OV) (i + 1, _) ?_ ?_ (hL := (by rw [hst]; (try rw [← List.append_assoc]); repeat first | exact sR | exact sN | apply sC | apply sS | apply sA))))
        · try dsimp only
          omega
        · try dsimp only
          omega
      · refine (opv (Ev.ldv ty3 (.t rfl) SConfFaults.l_at_) ?_)
        refine hdn (tk 11 rfl (Ev.add_i (.t rfl) (.t rfl) (fun _ => by simp; omega)) ?_)
        refine tk 12 rfl (Ev.buildS (fs := _) (places := [(0, 1), (1, 1)]) z168 rfl Tryz.underlying168 zk (.cons (.t rfl) (.cons (.t rfl) .nil)) (Fills.cons SFault.l_code rfl (Fills.cons SFault.l_at_ rfl Fills.nil))) ?_
        refine all [4, 13] zk (by decide) (.cons rfl ?_ (.cons rfl ?_ .nil))
        · refine (opv (Ev.ldv ty119 (.t rfl) SConfFaults.l_l) ?_)
          refine hdn (al1 13 rfl ((buildSlice (E := eFault) Tryz.underlying119 ty168 z168 (.cons (.t rfl) .nil) rfl rfl (fun v3 => ?_))))
          refine hdn (al1 14 rfl ((app (E := eFault) Tryz.underlying119 ty168 zb168 zs168 (.t rfl) (.t rfl) (fun v4 => ?_) (hby := ⟨by (show _ ≤ 9223372036854775807); have := faultsUp_len (fun j0 : Nat => g (xs.getD j0 iE.zero) j0) d i.toNat; simp only [List.length_append, List.length_cons, List.length_nil]; omega, by have := faultsUp_len (fun j0 : Nat => g (xs.getD j0 iE.zero) j0) d i.toNat; simp only [List.length_append, List.length_cons, List.length_nil]; omega⟩))))
          refine hdn (tk 15 rfl (Ev.nilCheck (.t rfl)) ?_)
          refine tk 16 rfl (fA 0 (.t rfl)) ?_
          refine al1 17 rfl ((stv ty119 SConfFaults.l_l (.t rfl) (.t rfl) ?_))
          refine hdn (ovr (bN (pN (region (co (Ev.add_i (.t rfl) (.c (v := I 1) rfl) (fun _ => zo)) ?_)))))
          refine mv rfl (nP (nx (X := Int × OV) (i + 1, _) ?_ ?_ (hL := (by rw [hst]; (try rw [← List.append_assoc]); repeat first | exact sR | exact sN | apply sC | apply sS | apply sA))))
          · try dsimp only
            omega
          · try dsimp only
            omega
        · refine (buildSlice (E := eFault) Tryz.underlying119 ty168 z168 (.cons (.t rfl) .nil) rfl rfl (fun v5 => ?_))
          refine hdn (al1 4 rfl ((opv (Ev.ldv ty119 (.t rfl) SConfFaults.l_l) ?_)))
          refine hdn (al1 14 rfl ((app (E := eFault) Tryz.underlying119 ty168 zb168 zs168 (.t rfl) (.t rfl) (fun v6 => ?_) (hby := ⟨by (show _ ≤ 9223372036854775807); have := faultsUp_len (fun j0 : Nat => g (xs.getD j0 iE.zero) j0) d i.toNat; simp only [List.length_append, List.length_cons, List.length_nil]; omega, by have := faultsUp_len (fun j0 : Nat => g (xs.getD j0 iE.zero) j0) d i.toNat; simp only [List.length_append, List.length_cons, List.length_nil]; omega⟩))))
          refine hdn (tk 15 rfl (Ev.nilCheck (.t rfl)) ?_)
          refine tk 16 rfl (fA 0 (.t rfl)) ?_
          refine al1 17 rfl ((stv ty119 SConfFaults.l_l (.t rfl) (.t rfl) ?_))
          refine hdn (ovr (bN (pN (region (co (Ev.add_i (.t rfl) (.c (v := I 1) rfl) (fun _ => zo)) ?_)))))
          refine mv rfl (nP (nx (X := Int × OV) (i + 1, _) ?_ ?_ (hL := (by rw [hst]; (try rw [← List.append_assoc]); repeat first | exact sR | exact sN | apply sC | apply sS | apply sA))))
          · try dsimp only
            omega
          · try dsimp only
            omega
    · try simp only [Gx.nb] at h1
      have ei : ((i.toNat : Nat) : Int) = i := by omega
      have hst := faultsUp_ok (e := (fun j0 : Nat => g (xs.getD j0 iE.zero) j0)) (d := d) hi.1 (by (try dsimp only); rw [ei]; exact h1)
      refine skip (bN (pN (region (co (Ev.add_i (.t rfl) (.c (v := I 1) rfl) (fun _ => zo)) ?_))))
      refine mv rfl (nP (nx (X := Int × OV) (i + 1, _) ?_ ?_ (hL := (by rw [hst]; (try rw [← List.append_assoc]); repeat first | exact sR | exact sN | apply sC | apply sS | apply sA))))
      · try dsimp only
        omega
      · try dsimp only
        omega
  · try simp only [Gx.nb] at h0
    refine exit (pX (pX (bX (pN (cut (X := OV) (fun x : OV => True) (fun x : OV => [dz, (0, true, .pointer (some ⟨b, 0, none⟩)), (1, true, u)]) (fun x : OV => [Var b eConfFaults ⟨x, d⟩ 210, OwnS x.v eFault (fs ++ listG (fun j0 : Nat => g (xs.getD j0 iE.zero) j0) d xs.length most) 168]) ?_ (fun x hx => ?_))))))
    · refine sg ?_
      have him : i.toNat = m := by omega
      rw [him]
      refine mv rfl (co (Ev.len Tryz.underlying22 (.t rfl) (fun w I => hxs w I.keeps)) ?_)
      refine mv rfl (co (Ev.gtr_i (.t rfl) (.t rfl)) ?_)
      refine nP ?_
      first | refine condD rfl (fun h2 => ?_) (fun h2 => ?_) | refine cond rfl (fun h2 => ?_) (fun h2 => ?_)
      · try simp only [Gx.nb] at h2
        refine draw [] zk ?_
        refine tk 0 rfl (Ev.move (.t rfl)) ?_
        refine tk 1 rfl (Ev.move (.t rfl)) ?_
        refine tk 2 rfl (Ev.nilCheck (.t rfl)) ?_
        refine tk 3 rfl (fA 0 (.t rfl)) ?_
        refine tk 5 rfl (Ev.move (.t rfl)) ?_
        refine tk 6 rfl (Ev.nilCheck (.t rfl)) ?_
        refine tk 7 rfl (fA 1 (.t rfl)) ?_
        refine tk 9 rfl (Ev.move (.t rfl)) ?_
        refine all [4, 8] zk (by decide) (.cons rfl ?_ (.cons rfl ?_ .nil))
        · refine (opv (Ev.ldv ty119 (.t rfl) SConfFaults.l_l) ?_)
          refine hdn (al1 8 rfl ((opv (Ev.ldv ty3 (.t rfl) SConfFaults.l_at_) ?_)))
          refine hdn (tk 10 rfl (Ev.add_i (.t rfl) (.t rfl) (fun _ => by simp; omega)) ?_)
          refine tk 11 rfl (Ev.buildS (fs := _) (places := [(0, 1), (1, 1)]) z168 rfl Tryz.underlying168 zk (.cons (.c (v := I 4) rfl) (.cons (.t rfl) .nil)) (Fills.cons SFault.l_code rfl (Fills.cons SFault.l_at_ rfl Fills.nil))) ?_
          refine al1 12 rfl ((buildSlice (E := eFault) Tryz.underlying119 ty168 z168 (.cons (.t rfl) .nil) rfl rfl (fun v7 => ?_)))
          refine hdn (al1 13 rfl ((app (E := eFault) Tryz.underlying119 ty168 zb168 zs168 (.t rfl) (.t rfl) (fun v8 => ?_) (hby := ⟨by (show _ ≤ 9223372036854775807); have := faultsUp_len (fun j0 : Nat => g (xs.getD j0 iE.zero) j0) d m; simp only [List.length_append, List.length_cons, List.length_nil]; omega, by have := faultsUp_len (fun j0 : Nat => g (xs.getD j0 iE.zero) j0) d m; simp only [List.length_append, List.length_cons, List.length_nil]; omega⟩))))
          refine hdn (tk 14 rfl (Ev.nilCheck (.t rfl)) ?_)
          refine tk 15 rfl (fA 0 (.t rfl)) ?_
          refine al1 16 rfl ((stv ty119 SConfFaults.l_l (.t rfl) (.t rfl) ?_))
          refine hdn (ovr (pN (mt (X := OV) (_) trivial (hL := (by unfold listG; rw [← hm2]; (first | rw [if_pos (by omega), ← List.append_assoc] | rw [if_neg (by omega), List.append_nil]); repeat first | exact sR | exact sN | apply sC | apply sS | apply sA)))))
        · refine (opv (Ev.ldv ty3 (.t rfl) SConfFaults.l_at_) ?_)
          refine hdn (tk 10 rfl (Ev.add_i (.t rfl) (.t rfl) (fun _ => by simp; omega)) ?_)
          refine tk 11 rfl (Ev.buildS (fs := _) (places := [(0, 1), (1, 1)]) z168 rfl Tryz.underlying168 zk (.cons (.c (v := I 4) rfl) (.cons (.t rfl) .nil)) (Fills.cons SFault.l_code rfl (Fills.cons SFault.l_at_ rfl Fills.nil))) ?_
          refine all [4, 12] zk (by decide) (.cons rfl ?_ (.cons rfl ?_ .nil))
          · refine (opv (Ev.ldv ty119 (.t rfl) SConfFaults.l_l) ?_)
            refine hdn (al1 12 rfl ((buildSlice (E := eFault) Tryz.underlying119 ty168 z168 (.cons (.t rfl) .nil) rfl rfl (fun v9 => ?_))))
            refine hdn (al1 13 rfl ((app (E := eFault) Tryz.underlying119 ty168 zb168 zs168 (.t rfl) (.t rfl) (fun v10 => ?_) (hby := ⟨by (show _ ≤ 9223372036854775807); have := faultsUp_len (fun j0 : Nat => g (xs.getD j0 iE.zero) j0) d m; simp only [List.length_append, List.length_cons, List.length_nil]; omega, by have := faultsUp_len (fun j0 : Nat => g (xs.getD j0 iE.zero) j0) d m; simp only [List.length_append, List.length_cons, List.length_nil]; omega⟩))))
            refine hdn (tk 14 rfl (Ev.nilCheck (.t rfl)) ?_)
            refine tk 15 rfl (fA 0 (.t rfl)) ?_
            refine al1 16 rfl ((stv ty119 SConfFaults.l_l (.t rfl) (.t rfl) ?_))
            refine hdn (ovr (pN (mt (X := OV) (_) trivial (hL := (by unfold listG; rw [← hm2]; (first | rw [if_pos (by omega), ← List.append_assoc] | rw [if_neg (by omega), List.append_nil]); repeat first | exact sR | exact sN | apply sC | apply sS | apply sA)))))
          · refine (buildSlice (E := eFault) Tryz.underlying119 ty168 z168 (.cons (.t rfl) .nil) rfl rfl (fun v11 => ?_))
            refine hdn (al1 4 rfl ((opv (Ev.ldv ty119 (.t rfl) SConfFaults.l_l) ?_)))
            refine hdn (al1 13 rfl ((app (E := eFault) Tryz.underlying119 ty168 zb168 zs168 (.t rfl) (.t rfl) (fun v12 => ?_) (hby := ⟨by (show _ ≤ 9223372036854775807); have := faultsUp_len (fun j0 : Nat => g (xs.getD j0 iE.zero) j0) d m; simp only [List.length_append, List.length_cons, List.length_nil]; omega, by have := faultsUp_len (fun j0 : Nat => g (xs.getD j0 iE.zero) j0) d m; simp only [List.length_append, List.length_cons, List.length_nil]; omega⟩))))
            refine hdn (tk 14 rfl (Ev.nilCheck (.t rfl)) ?_)
            refine tk 15 rfl (fA 0 (.t rfl)) ?_
            refine al1 16 rfl ((stv ty119 SConfFaults.l_l (.t rfl) (.t rfl) ?_))
            refine hdn (ovr (pN (mt (X := OV) (_) trivial (hL := (by unfold listG; rw [← hm2]; (first | rw [if_pos (by omega), ← List.append_assoc] | rw [if_neg (by omega), List.append_nil]); repeat first | exact sR | exact sN | apply sC | apply sS | apply sA)))))
      · try simp only [Gx.nb] at h2
        refine skip (pN (mt (X := OV) (_) trivial (hL := (by unfold listG; rw [← hm2]; (first | rw [if_pos (by omega), ← List.append_assoc] | rw [if_neg (by omega), List.append_nil]); repeat first | exact sR | exact sN | apply sC | apply sS | apply sA))))
    obtain ⟨q2, rfl⟩ : ∃ y, y = x := ⟨x, rfl⟩
    show Sat _ _ [dz, (0, true, .pointer (some ⟨b, 0, none⟩)), (1, true, u)] [Var b eConfFaults ⟨q2, d⟩ 210, OwnS q2.v eFault (fs ++ listG (fun j0 : Nat => g (xs.getD j0 iE.zero) j0) d xs.length most) 168]
    refine region (mv rfl (co (Ev.nilCheck (.t rfl)) ?_))
    refine co (fA 1 (.t rfl)) ?_
    refine co (Ev.ldv ty3 (.t rfl) SConfFaults.l_at_) ?_
    refine mv rfl (co (Ev.len Tryz.underlying22 (.t rfl) (fun w I => hxs w I.keeps)) ?_)
    refine co (Ev.add_i (.t rfl) (.t rfl) (fun _ => by simp; omega)) ?_
    refine co (Ev.nilCheck (.t rfl)) ?_
    refine co (fA 1 (.t rfl)) ?_
    refine cons (stv ty3 SConfFaults.l_at_ (.t rfl) (.t rfl) ?_)
    refine nil (done' rfl .nil (fun w I => ?_))
    exact retR (r' := fun o2 => FR b o2 (fs ++ listG (fun j0 : Nat => g (xs.getD j0 iE.zero) j0) d xs.length most) (d + xs.length)) _ trivial rfl (List.mem_singleton_self _) w (WInv.sepIn (I.sub zs))
set_option maxRecDepth 8000 in
theorem list_172 (f : Nat) (fst cap : List Value) (g : SRoute → Int → Int) (D : SRoute → Int → Prop) (b : Nat) (o : OV) (fs : List SFault) (d : Int) (u : Value) (xs : List SRoute) (most : Nat) (w : World) (hen : Gx.Enters Tryz.prog f) (h : At (FR b o fs d) w) (hxs : ∀ w1, Keeps (FR b o fs d).foot w w1 → IsSl eRoute w1 u xs) (hk : FnB2 Tryz.prog f fst cap (FR b o fs d).foot w eRoute iE iE D g) (hD : ∀ i : Nat, i < xs.length → D (xs.getD i eRoute.zero) i) (hd : 0 ≤ d ∧ d + xs.length ≤ 4611686018427387904) (hf : fs.length + most ≤ 100000) : Calls Tryz.prog 95 #[.pointer (some ⟨b, 0, none⟩), u, I most, (bnd f fst cap).v] w (RetR w (FR b o fs d) (fun _ : OV => True) (fun _ => .tuple #[]) (fun o2 => FR b o2 (fs ++ listG (fun j0 : Nat => g (xs.getD j0 eRoute.zero) j0) d xs.length most) (d + xs.length))) := by
  obtain ⟨m, hm⟩ : ∃ m : Nat, (min (xs.length : Int) (most : Int)) = (m : Int) := ⟨min xs.length most, by omega⟩
  have hm2 : m = min xs.length most := by omega
  have hle := (hxs w (Keeps.refl _ _)).le
  have htl : (xs.take m).length = m := by simp; omega
  refine enter (FR b o fs d).foot 76 [FR b o fs d] Tryz.func95 rfl rfl (Nat.le_of_ble_eq_true rfl) (start_at h) ?_
  refine sepOut Rem.head ?_
  refine seq (sg (mv rfl (mv rfl (co (Ev.len Tryz.underlying23 (.t rfl) (fun w I => hxs w I.keeps)) ?_))))
  refine mv rfl (co (Ev.to (v' := I ((m : Nat) : Int)) (Ev.min_i (.t rfl) (.t rfl)) (by rw [hm])) ?_)
  refine co (Ev.sliceH Tryz.underlying23 ty172 (.t rfl) (.t rfl) (fun w I => hxs w I.keeps) (fun _ => zo)) ?_
  refine co (Ev.len Tryz.underlying23 (.t rfl) (fun w I => by have := (hxs w I.keeps).sub (l := 0) (k := m) (by omega) (by omega); simpa using this)) ?_
  refine co (Ev.move (.c (v := I 0) rfl)) ?_
  refine nP (block (lp (X := Int × OV) (fun x : Int × OV => (0 ≤ x.1 ∧ x.1 ≤ m)) (fun x : Int × OV => [dz, (0, true, .pointer (some ⟨b, 0, none⟩)), (1, true, u), (2, true, I most), (3, true, (bnd f fst cap).v), (16, true, subS eRoute.size u 0 m), (17, true, I (xs.take m).length), (18, true, I x.1)]) (fun x : Int × OV => [Var b eConfFaults ⟨x.2, d⟩ 210, OwnS x.2.v eFault (fs ++ faultsUp (fun j0 : Nat => g (xs.getD j0 eRoute.zero) j0) d x.1.toNat) 168]) (fun x : Int × OV => ((m : Int) - x.1).toNat) (0, o) ?_ (fun x hx => ?_) (hL := (by simp only [show (0 : Int).toNat = 0 from rfl, faultsUp, List.append_nil]; repeat first | exact sR | exact sN | apply sC | apply sS | apply sA))))
  · omega
  obtain ⟨i, q⟩ := x
  have hi : 0 ≤ i ∧ i ≤ m := hx
  clear hx
  show Sat _ _ [dz, (0, true, .pointer (some ⟨b, 0, none⟩)), (1, true, u), (2, true, I most), (3, true, (bnd f fst cap).v), (16, true, subS eRoute.size u 0 m), (17, true, I (xs.take m).length), (18, true, I i)] [Var b eConfFaults ⟨q, d⟩ 210, OwnS q.v eFault (fs ++ faultsUp (fun j0 : Nat => g (xs.getD j0 eRoute.zero) j0) d i.toNat) 168]
  refine sg (co (Ev.lss_i (.t rfl) (.t rfl)) ?_)
  refine nP (seq ?_)
  first | refine condD rfl (fun h0 => ?_) (fun h0 => ?_) | refine cond rfl (fun h0 => ?_) (fun h0 => ?_)
  · try simp only [Gx.nb] at h0
    refine skip (pN (seq (block (sg (mv rfl (co (Ev.indexAddr Tryz.underlying23 ty172 (.t rfl) (.t rfl) (fun w I => by have := (hxs w I.keeps).sub (l := 0) (k := m) (by omega) (by omega); simpa using this) (fun _ => by omega)) ?_))))))
    refine co (Ev.to (v' := eRoute.val (xs.getD i.toNat eRoute.zero)) (Ev.loadS0 ty172 (.t rfl) (fun w I => by have := (hxs w I.keeps).sub (l := 0) (k := m) (by omega) (by omega); simpa using this) (fun _ => by omega)) (congrArg eRoute.val (getD_take'' xs m i.toNat _ (by omega)))) ?_
    refine cons (alloc z172 (fun b1 => ?_))
    refine asn rfl (cons (stv ty172 (Lens.id _) (.t rfl) (.t rfl) ?_))
    refine nP (sg (mv rfl (co (Ev.ldv ty172 (.t rfl) (Lens.id _)) ?_)))
    refine mv rfl (cons (callbv (.t rfl) hen (.cons (.t rfl) (.cons (.t rfl) .nil)) (fun w I => hk (xs.getD i.toNat eRoute.zero) i w (by have := hD i.toNat (by omega); rwa [show ((i.toNat : Nat) : Int) = i by omega] at this) I.keeps) ?_))
    refine asn rfl (nP (sg (mv rfl (co (Ev.neq_i (.t rfl) (.c (v := I 0) rfl)) ?_))))
    refine nP ?_
    first | refine condD rfl (fun h1 => ?_) (fun h1 => ?_) | refine cond rfl (fun h1 => ?_) (fun h1 => ?_)
    · try simp only [Gx.nb] at h1
      have ei : ((i.toNat : Nat) : Int) = i := by omega
      have hst := faultsUp_bad (e := (fun j0 : Nat => g (xs.getD j0 eRoute.zero) j0)) (d := d) hi.1 (by (try dsimp only); rw [ei]; exact h1)
      (try dsimp only at hst)
      rw [ei] at hst
      refine draw [] zk ?_
      refine tk 0 rfl (Ev.move (.t rfl)) ?_
      refine tk 1 rfl (Ev.move (.t rfl)) ?_
      refine tk 2 rfl (Ev.nilCheck (.t rfl)) ?_
      refine tk 3 rfl (fA 0 (.t rfl)) ?_
      refine tk 5 rfl (Ev.move (.t rfl)) ?_
      refine tk 6 rfl (Ev.move (.t rfl)) ?_
      refine tk 7 rfl (Ev.nilCheck (.t rfl)) ?_
      refine tk 8 rfl (fA 1 (.t rfl)) ?_
      refine tk 10 rfl (Ev.move (.t rfl)) ?_
      refine all [4, 9] zk (by decide) (.cons rfl ?_ (.cons rfl ?_ .nil))
      · refine (opv (Ev.ldv ty119 (.t rfl) SConfFaults.l_l) ?_)
        refine hdn (al1 9 rfl ((opv (Ev.ldv ty3 (.t rfl) SConfFaults.l_at_) ?_)))
        refine hdn (tk 11 rfl (Ev.add_i (.t rfl) (.t rfl) (fun _ => by simp; omega)) ?_)
        refine tk 12 rfl (Ev.buildS (fs := _) (places := [(0, 1), (1, 1)]) z168 rfl Tryz.underlying168 zk (.cons (.t rfl) (.cons (.t rfl) .nil)) (Fills.cons SFault.l_code rfl (Fills.cons SFault.l_at_ rfl Fills.nil))) ?_
        refine al1 13 rfl ((buildSlice (E := eFault) Tryz.underlying119 ty168 z168 (.cons (.t rfl) .nil) rfl rfl (fun v2 => ?_)))
        refine hdn (al1 14 rfl ((app (E := eFault) Tryz.underlying119 ty168 zb168 zs168 (.t rfl) (.t rfl) (fun v3 => ?_) (hby := ⟨by (show _ ≤ 9223372036854775807); have := faultsUp_len (fun j0 : Nat => g (xs.getD j0 eRoute.zero) j0) d i.toNat; simp only [List.length_append, List.length_cons, List.length_nil]; omega, by have := faultsUp_len (fun j0 : Nat => g (xs.getD j0 eRoute.zero) j0) d i.toNat; simp only [List.length_append, List.length_cons, List.length_nil]; omega⟩))))
        refine hdn (tk 15 rfl (Ev.nilCheck (.t rfl)) ?_)
        refine tk 16 rfl (fA 0 (.t rfl)) ?_
        refine al1 17 rfl ((stv ty119 SConfFaults.l_l (.t rfl) (.t rfl) ?_))
        refine hdn (ovr (bN (pN (region (co (Ev.add_i (.t rfl) (.c (v := I 1) rfl) (fun _ => zo)) ?_)))))
        refine mv rfl (nP (nx (X := Int × OV) (i + 1, _) ?_ ?_ (hL := (by rw [hst]; (try rw [← List.append_assoc]); repeat first | exact sR | exact sN | apply sC | apply sS | apply sA))))
        · try dsimp only
          omega
        · try dsimp only
          omega
      · refine (opv (Ev.ldv ty3 (.t rfl) SConfFaults.l_at_) ?_)
        refine hdn (tk 11 rfl (Ev.add_i (.t rfl) (.t rfl) (fun _ => by simp; omega)) ?_)
        refine tk 12 rfl (Ev.buildS (fs := _) (places := [(0, 1), (1, 1)]) z168 rfl Tryz.underlying168 zk (.cons (.t rfl) (.cons (.t rfl) .nil)) (Fills.cons SFault.l_code rfl (Fills.cons SFault.l_at_ rfl Fills.nil))) ?_
        refine all [4, 13] zk (by decide) (.cons rfl ?_ (.cons rfl ?_ .nil))
        · refine (opv (Ev.ldv ty119 (.t rfl) SConfFaults.l_l) ?_)
          refine hdn (al1 13 rfl ((buildSlice (E := eFault) Tryz.underlying119 ty168 z168 (.cons (.t rfl) .nil) rfl rfl (fun v4 => ?_))))
          refine hdn (al1 14 rfl ((app (E := eFault) Tryz.underlying119 ty168 zb168 zs168 (.t rfl) (.t rfl) (fun v5 => ?_) (hby := ⟨by (show _ ≤ 9223372036854775807); have := faultsUp_len (fun j0 : Nat => g (xs.getD j0 eRoute.zero) j0) d i.toNat; simp only [List.length_append, List.length_cons, List.length_nil]; omega, by have := faultsUp_len (fun j0 : Nat => g (xs.getD j0 eRoute.zero) j0) d i.toNat; simp only [List.length_append, List.length_cons, List.length_nil]; omega⟩))))
          refine hdn (tk 15 rfl (Ev.nilCheck (.t rfl)) ?_)
          refine tk 16 rfl (fA 0 (.t rfl)) ?_
          refine al1 17 rfl ((stv ty119 SConfFaults.l_l (.t rfl) (.t rfl) ?_))
          refine hdn (ovr (bN (pN (region (co (Ev.add_i (.t rfl) (.c (v := I 1) rfl) (fun _ => zo)) ?_)))))
          refine mv rfl (nP (nx (X := Int × OV) (i + 1, _) ?_ ?_ (hL := (by rw [hst]; (try rw [← List.append_assoc]); repeat first | exact sR | exact sN | apply sC | apply sS | apply sA))))
          · try dsimp only
            omega
          · try dsimp only
            omega
        · refine (buildSlice (E := eFault) Tryz.underlying119 ty168 z168 (.cons (.t rfl) .nil) rfl rfl (fun v6 => ?_))
          refine hdn (al1 4 rfl ((opv (Ev.ldv ty119 (.t rfl) SConfFaults.l_l) ?_)))
          refine hdn (al1 14 rfl ((app (E := eFault) Tryz.underlying119 ty168 zb168 zs168 (.t rfl) (.t rfl) (fun v7 => ?_) (hby := ⟨by (show _ ≤ 9223372036854775807); have := faultsUp_len (fun j0 : Nat => g (xs.getD j0 eRoute.zero) j0) d i.toNat; simp only [List.length_append, List.length_cons, List.length_nil]; omega, by have := faultsUp_len (fun j0 : Nat => g (xs.getD j0 eRoute.zero) j0) d i.toNat; simp only [List.length_append, List.length_cons, List.length_nil]; omega⟩))))
          refine hdn (tk 15 rfl (Ev.nilCheck (.t rfl)) ?_)
          refine tk 16 rfl (fA 0 (.t rfl)) ?_
          refine al1 17 rfl ((stv ty119 SConfFaults.l_l (.t rfl) (.t rfl) ?_))
          refine hdn (ovr (bN (pN (region (co (Ev.add_i (.t rfl) (.c (v := I 1) rfl) (fun _ => zo)) ?_)))))
          refine mv rfl (nP (nx (X := Int × OV) (i + 1, _) ?_ ?_ (hL := (by rw [hst]; (try rw [← List.append_assoc]); repeat first | exact sR | exact sN | apply sC | apply sS | apply sA))))
          · try dsimp only
            omega
          · try dsimp only
            omega
    · try simp only [Gx.nb] at h1
      have ei : ((i.toNat : Nat) : Int) = i := by omega
      have hst := faultsUp_ok (e := (fun j0 : Nat => g (xs.getD j0 eRoute.zero) j0)) (d := d) hi.1 (by (try dsimp only); rw [ei]; exact h1)
      refine skip (bN (pN (region (co (Ev.add_i (.t rfl) (.c (v := I 1) rfl) (fun _ => zo)) ?_))))
      refine mv rfl (nP (nx (X := Int × OV) (i + 1, _) ?_ ?_ (hL := (by rw [hst]; (try rw [← List.append_assoc]); repeat first | exact sR | exact sN | apply sC | apply sS | apply sA))))
      · try dsimp only
        omega
      · try dsimp only
        omega
  · try simp only [Gx.nb] at h0
    refine exit (pX (pX (bX (pN (cut (X := OV) (fun x : OV => True) (fun x : OV => [dz, (0, true, .pointer (some ⟨b, 0, none⟩)), (1, true, u)]) (fun x : OV => [Var b eConfFaults ⟨x, d⟩ 210, OwnS x.v eFault (fs ++ listG (fun j0 : Nat => g (xs.getD j0 eRoute.zero) j0) d xs.length most) 168]) ?_ (fun x hx => ?_))))))
    · refine sg ?_
      have him : i.toNat = m := by omega
      rw [him]
      refine mv rfl (co (Ev.len Tryz.underlying23 (.t rfl) (fun w I => hxs w I.keeps)) ?_)
      refine mv rfl (co (Ev.gtr_i (.t rfl) (.t rfl)) ?_)
      refine nP ?_
      first | refine condD rfl (fun h2 => ?_) (fun h2 => ?_) | refine cond rfl (fun h2 => ?_) (fun h2 => ?_)
      · try simp only [Gx.nb] at h2
        refine draw [] zk ?_
        refine tk 0 rfl (Ev.move (.t rfl)) ?_
        refine tk 1 rfl (Ev.move (.t rfl)) ?_
        refine tk 2 rfl (Ev.nilCheck (.t rfl)) ?_
        refine tk 3 rfl (fA 0 (.t rfl)) ?_
        refine tk 5 rfl (Ev.move (.t rfl)) ?_
        refine tk 6 rfl (Ev.nilCheck (.t rfl)) ?_
        refine tk 7 rfl (fA 1 (.t rfl)) ?_
        refine tk 9 rfl (Ev.move (.t rfl)) ?_
        refine all [4, 8] zk (by decide) (.cons rfl ?_ (.cons rfl ?_ .nil))
        · refine (opv (Ev.ldv ty119 (.t rfl) SConfFaults.l_l) ?_)
          refine hdn (al1 8 rfl ((opv (Ev.ldv ty3 (.t rfl) SConfFaults.l_at_) ?_)))
          refine hdn (tk 10 rfl (Ev.add_i (.t rfl) (.t rfl) (fun _ => by simp; omega)) ?_)
          refine tk 11 rfl (Ev.buildS (fs := _) (places := [(0, 1), (1, 1)]) z168 rfl Tryz.underlying168 zk (.cons (.c (v := I 4) rfl) (.cons (.t rfl) .nil)) (Fills.cons SFault.l_code rfl (Fills.cons SFault.l_at_ rfl Fills.nil))) ?_
          refine al1 12 rfl ((buildSlice (E := eFault) Tryz.underlying119 ty168 z168 (.cons (.t rfl) .nil) rfl rfl (fun v8 => ?_)))
          refine hdn (al1 13 rfl ((app (E := eFault) Tryz.underlying119 ty168 zb168 zs168 (.t rfl) (.t rfl) (fun v9 => ?_) (hby := ⟨by (show _ ≤ 9223372036854775807); have := faultsUp_len (fun j0 : Nat => g (xs.getD j0 eRoute.zero) j0) d m; simp only [List.length_append, List.length_cons, List.length_nil]; omega, by have := faultsUp_len (fun j0 : Nat => g (xs.getD j0 eRoute.zero) j0) d m; simp only [List.length_append, List.length_cons, List.length_nil]; omega⟩))))
          refine hdn (tk 14 rfl (Ev.nilCheck (.t rfl)) ?_)
          refine tk 15 rfl (fA 0 (.t rfl)) ?_
          refine al1 16 rfl ((stv ty119 SConfFaults.l_l (.t rfl) (.t rfl) ?_))
          refine hdn (ovr (pN (mt (X := OV) (_) trivial (hL := (by unfold listG; rw [← hm2]; (first | rw [if_pos (by omega), ← List.append_assoc] | rw [if_neg (by omega), List.append_nil]); repeat first | exact sR | exact sN | apply sC | apply sS | apply sA)))))
        · refine (opv (Ev.ldv ty3 (.t rfl) SConfFaults.l_at_) ?_)
          refine hdn (tk 10 rfl (Ev.add_i (.t rfl) (.t rfl) (fun _ => by simp; omega)) ?_)
          refine tk 11 rfl (Ev.buildS (fs := _) (places := [(0, 1), (1, 1)]) z168 rfl Tryz.underlying168 zk (.cons (.c (v := I 4) rfl) (.cons (.t rfl) .nil)) (Fills.cons SFault.l_code rfl (Fills.cons SFault.l_at_ rfl Fills.nil))) ?_
          refine all [4, 12] zk (by decide) (.cons rfl ?_ (.cons rfl ?_ .nil))
          · refine (opv (Ev.ldv ty119 (.t rfl) SConfFaults.l_l) ?_)
            refine hdn (al1 12 rfl ((buildSlice (E := eFault) Tryz.underlying119 ty168 z168 (.cons (.t rfl) .nil) rfl rfl (fun v10 => ?_))))
            refine hdn (al1 13 rfl ((app (E := eFault) Tryz.underlying119 ty168 zb168 zs168 (.t rfl) (.t rfl) (fun v11 => ?_) (hby := ⟨by (show _ ≤ 9223372036854775807); have := faultsUp_len (fun j0 : Nat => g (xs.getD j0 eRoute.zero) j0) d m; simp only [List.length_append, List.length_cons, List.length_nil]; omega, by have := faultsUp_len (fun j0 : Nat => g (xs.getD j0 eRoute.zero) j0) d m; simp only [List.length_append, List.length_cons, List.length_nil]; omega⟩))))
            refine hdn (tk 14 rfl (Ev.nilCheck (.t rfl)) ?_)
            refine tk 15 rfl (fA 0 (.t rfl)) ?_
            refine al1 16 rfl ((stv ty119 SConfFaults.l_l (.t rfl) (.t rfl) ?_))
            refine hdn (ovr (pN (mt (X := OV) (_) trivial (hL := (by unfold listG; rw [← hm2]; (first | rw [if_pos (by omega), ← List.append_assoc] | rw [if_neg (by omega), List.append_nil]); repeat first | exact sR | exact sN | apply sC | apply sS | apply sA)))))
          · refine (buildSlice (E := eFault) Tryz.underlying119 ty168 z168 (.cons (.t rfl) .nil) rfl rfl (fun v12 => ?_))
            refine hdn (al1 4 rfl ((opv (Ev.ldv ty119 (.t rfl) SConfFaults.l_l) ?_)))
            refine hdn (al1 13 rfl ((app (E := eFault) Tryz.underlying119 ty168 zb168 zs168 (.t rfl) (.t rfl) (fun v13 => ?_) (hby := ⟨by (show _ ≤ 9223372036854775807); have := faultsUp_len (fun j0 : Nat => g (xs.getD j0 eRoute.zero) j0) d m; simp only [List.length_append, List.length_cons, List.length_nil]; omega, by have := faultsUp_len (fun j0 : Nat => g (xs.getD j0 eRoute.zero) j0) d m; simp only [List.length_append, List.length_cons, List.length_nil]; omega⟩))))
            refine hdn (tk 14 rfl (Ev.nilCheck (.t rfl)) ?_)
            refine tk 15 rfl (fA 0 (.t rfl)) ?_
            refine al1 16 rfl ((stv ty119 SConfFaults.l_l (.t rfl) (.t rfl) ?_))
            refine hdn (ovr (pN (mt (X := OV) (_) trivial (hL := (by unfold listG; rw [← hm2]; (first | rw [if_pos (by omega), ← List.append_assoc] | rw [if_neg (by omega), List.append_nil]); repeat first | exact sR | exact sN | apply sC | apply sS | apply sA)))))
      · try simp only [Gx.nb] at h2
        refine skip (pN (mt (X := OV) (_) trivial (hL := (by unfold listG; rw [← hm2]; (first | rw [if_pos (by omega), ← List.append_assoc] | rw [if_neg (by omega), List.append_nil]); repeat first | exact sR | exact sN | apply sC | apply sS | apply sA))))
    obtain ⟨q2, rfl⟩ : ∃ y, y = x := ⟨x, rfl⟩
    show Sat _ _ [dz, (0, true, .pointer (some ⟨b, 0, none⟩)), (1, true, u)] [Var b eConfFaults ⟨q2, d⟩ 210, OwnS q2.v eFault (fs ++ listG (fun j0 : Nat => g (xs.getD j0 eRoute.zero) j0) d xs.length most) 168]
    refine region (mv rfl (co (Ev.nilCheck (.t rfl)) ?_))
    refine co (fA 1 (.t rfl)) ?_
    refine co (Ev.ldv ty3 (.t rfl) SConfFaults.l_at_) ?_
    refine mv rfl (co (Ev.len Tryz.underlying23 (.t rfl) (fun w I => hxs w I.keeps)) ?_)
    refine co (Ev.add_i (.t rfl) (.t rfl) (fun _ => by simp; omega)) ?_
    refine co (Ev.nilCheck (.t rfl)) ?_
    refine co (fA 1 (.t rfl)) ?_
    refine cons (stv ty3 SConfFaults.l_at_ (.t rfl) (.t rfl) ?_)
    refine nil (done' rfl .nil (fun w I => ?_))
    exact retR (r' := fun o2 => FR b o2 (fs ++ listG (fun j0 : Nat => g (xs.getD j0 eRoute.zero) j0) d xs.length most) (d + xs.length)) _ trivial rfl (List.mem_singleton_self _) w (WInv.sepIn (I.sub zs))
set_option maxRecDepth 8000 in
theorem list_113 (f : Nat) (fst cap : List Value) (g : SRule → Int → Int) (D : SRule → Int → Prop) (b : Nat) (o : OV) (fs : List SFault) (d : Int) (u : Value) (xs : List SRule) (most : Nat) (w : World) (hen : Gx.Enters Tryz.prog f) (h : At (FR b o fs d) w) (hxs : ∀ w1, Keeps (FR b o fs d).foot w w1 → IsSl eRule w1 u xs) (hk : FnB2 Tryz.prog f fst cap (FR b o fs d).foot w eRule iE iE D g) (hD : ∀ i : Nat, i < xs.length → D (xs.getD i eRule.zero) i) (hd : 0 ≤ d ∧ d + xs.length ≤ 4611686018427387904) (hf : fs.length + most ≤ 100000) : Calls Tryz.prog 97 #[.pointer (some ⟨b, 0, none⟩), u, I most, (bnd f fst cap).v] w (RetR w (FR b o fs d) (fun _ : OV => True) (fun _ => .tuple #[]) (fun o2 => FR b o2 (fs ++ listG (fun j0 : Nat => g (xs.getD j0 eRule.zero) j0) d xs.length most) (d + xs.length))) := by
  obtain ⟨m, hm⟩ : ∃ m : Nat, (min (xs.length : Int) (most : Int)) = (m : Int) := ⟨min xs.length most, by omega⟩
  have hm2 : m = min xs.length most := by omega
  have hle := (hxs w (Keeps.refl _ _)).le
  have htl : (xs.take m).length = m := by simp; omega
  refine enter (FR b o fs d).foot 76 [FR b o fs d] Tryz.func97 rfl rfl (Nat.le_of_ble_eq_true rfl) (start_at h) ?_
  refine sepOut Rem.head ?_
  refine seq (sg (mv rfl (mv rfl (co (Ev.len Tryz.underlying24 (.t rfl) (fun w I => hxs w I.keeps)) ?_))))
  refine mv rfl (co (Ev.to (v' := I ((m : Nat) : Int)) (Ev.min_i (.t rfl) (.t rfl)) (by rw [hm])) ?_)
  refine co (Ev.sliceH Tryz.underlying24 ty113 (.t rfl) (.t rfl) (fun w I => hxs w I.keeps) (fun _ => zo)) ?_
  refine co (Ev.len Tryz.underlying24 (.t rfl) (fun w I => by have := (hxs w I.keeps).sub (l := 0) (k := m) (by omega) (by omega); simpa using this)) ?_
  refine co (Ev.move (.c (v := I 0) rfl)) ?_
  refine nP (block (lp (X := Int × OV) (fun x : Int × OV => (0 ≤ x.1 ∧ x.1 ≤ m)) (fun x : Int × OV => [dz, (0, true, .pointer (some ⟨b, 0, none⟩)), (1, true, u), (2, true, I most), (3, true, (bnd f fst cap).v), (16, true, subS eRule.size u 0 m), (17, true, I (xs.take m).length), (18, true, I x.1)]) (fun x : Int × OV => [Var b eConfFaults ⟨x.2, d⟩ 210, OwnS x.2.v eFault (fs ++ faultsUp (fun j0 : Nat => g (xs.getD j0 eRule.zero) j0) d x.1.toNat) 168]) (fun x : Int × OV => ((m : Int) - x.1).toNat) (0, o) ?_ (fun x hx => ?_) (hL := (by simp only [show (0 : Int).toNat = 0 from rfl, faultsUp, List.append_nil]; repeat first | exact sR | exact sN | apply sC | apply sS | apply sA))))
  · omega
  obtain ⟨i, q⟩ := x
  have hi : 0 ≤ i ∧ i ≤ m := hx
  clear hx
  show Sat _ _ [dz, (0, true, .pointer (some ⟨b, 0, none⟩)), (1, true, u), (2, true, I most), (3, true, (bnd f fst cap).v), (16, true, subS eRule.size u 0 m), (17, true, I (xs.take m).length), (18, true, I i)] [Var b eConfFaults ⟨q, d⟩ 210, OwnS q.v eFault (fs ++ faultsUp (fun j0 : Nat => g (xs.getD j0 eRule.zero) j0) d i.toNat) 168]
  refine sg (co (Ev.lss_i (.t rfl) (.t rfl)) ?_)
  refine nP (seq ?_)
  first | refine condD rfl (fun h0 => ?_) (fun h0 => ?_) | refine cond rfl (fun h0 => ?_) (fun h0 => ?_)
  · try simp only [Gx.nb] at h0
    refine skip (pN (seq (block (sg (mv rfl (co (Ev.indexAddr Tryz.underlying24 ty113 (.t rfl) (.t rfl) (fun w I => by have := (hxs w I.keeps).sub (l := 0) (k := m) (by omega) (by omega); simpa using this) (fun _ => by omega)) ?_))))))
    refine co (Ev.to (v' := eRule.val (xs.getD i.toNat eRule.zero)) (Ev.loadS0 ty113 (.t rfl) (fun w I => by have := (hxs w I.keeps).sub (l := 0) (k := m) (by omega) (by omega); simpa using this) (fun _ => by omega)) (congrArg eRule.val (getD_take'' xs m i.toNat _ (by omega)))) ?_
    refine cons (alloc z113 (fun b1 => ?_))
    refine asn rfl (cons (stv ty113 (Lens.id _) (.t rfl) (.t rfl) ?_))
    refine nP (sg (mv rfl (co (Ev.ldv ty113 (.t rfl) (Lens.id _)) ?_)))
    refine mv rfl (cons (callbv (.t rfl) hen (.cons (.t rfl) (.cons (.t rfl) .nil)) (fun w I => hk (xs.getD i.toNat eRule.zero) i w (by have := hD i.toNat (by omega); rwa [show ((i.toNat : Nat) : Int) = i by omega] at this) I.keeps) ?_))
    refine asn rfl (nP (sg (mv rfl (co (Ev.neq_i (.t rfl) (.c (v := I 0) rfl)) ?_))))
    refine nP ?_
    first | refine condD rfl (fun h1 => ?_) (fun h1 => ?_) | refine cond rfl (fun h1 => ?_) (fun h1 => ?_)
    · try simp only [Gx.nb] at h1
      have ei : ((i.toNat : Nat) : Int) = i := by omega
      have hst := faultsUp_bad (e := (fun j0 : Nat => g (xs.getD j0 eRule.zero) j0)) (d := d) hi.1 (by (try dsimp only); rw [ei]; exact h1)
      (try dsimp only at hst)
      rw [ei] at hst
      refine draw [] zk ?_
      refine tk 0 rfl (Ev.move (.t rfl)) ?_
      refine tk 1 rfl (Ev.move (.t rfl)) ?_
      refine tk 2 rfl (Ev.nilCheck (.t rfl)) ?_
      refine tk 3 rfl (fA 0 (.t rfl)) ?_
      refine tk 5 rfl (Ev.move (.t rfl)) ?_
      refine tk 6 rfl (Ev.move (.t rfl)) ?_
      refine tk 7 rfl (Ev.nilCheck (.t rfl)) ?_
      refine tk 8 rfl (fA 1 (.t rfl)) ?_
      refine tk 10 rfl (Ev.move (.t rfl)) ?_
      refine all [4, 9] zk (by decide) (.cons rfl ?_ (.cons rfl ?_ .nil))
      · refine (opv (Ev.ldv ty119 (.t rfl) SConfFaults.l_l) ?_)
        refine hdn (al1 9 rfl ((opv (Ev.ldv ty3 (.t rfl) SConfFaults.l_at_) ?_)))
        refine hdn (tk 11 rfl (Ev.add_i (.t rfl) (.t rfl) (fun _ => by simp; omega)) ?_)
        refine tk 12 rfl (Ev.buildS (fs := _) (places := [(0, 1), (1, 1)]) z168 rfl Tryz.underlying168 zk (.cons (.t rfl) (.cons (.t rfl) .nil)) (Fills.cons SFault.l_code rfl (Fills.cons SFault.l_at_ rfl Fills.nil))) ?_
        refine al1 13 rfl ((buildSlice (E := eFault) Tryz.underlying119 ty168 z168 (.cons (.t rfl) .nil) rfl rfl (fun v2 => ?_)))
        refine hdn (al1 14 rfl ((app (E := eFault) Tryz.underlying119 ty168 zb168 zs168 (.t rfl) (.t rfl) (fun v3 => ?_) (hby := ⟨by (show _ ≤ 9223372036854775807); have := faultsUp_len (fun j0 : Nat => g (xs.getD j0 eRule.zero) j0) d i.toNat; simp only [List.length_append, List.length_cons, List.length_nil]; omega, by have := faultsUp_len (fun j0 : Nat => g (xs.getD j0 eRule.zero) j0) d i.toNat; simp only [List.length_append, List.length_cons, List.length_nil]; omega⟩))))
        refine hdn (tk 15 rfl (Ev.nilCheck (.t rfl)) ?_)
        refine tk 16 rfl (fA 0 (.t rfl)) ?_
        refine al1 17 rfl ((stv ty119 SConfFaults.l_l (.t rfl) (.t rfl) ?_))
        refine hdn (ovr (bN (pN (region (co (Ev.add_i (.t rfl) (.c (v := I 1) rfl) (fun _ => zo)) ?_)))))
        refine mv rfl (nP (nx (X := Int × OV) (i + 1, _) ?_ ?_ (hL := (by rw [hst]; (try rw [← List.append_assoc]); repeat first | exact sR | exact sN | apply sC | apply sS | apply sA))))
        · try dsimp only
          omega
        · try dsimp only
          omega
      · refine (opv (Ev.ldv ty3 (.t rfl) SConfFaults.l_at_) ?_)
        refine hdn (tk 11 rfl (Ev.add_i (.t rfl) (.t rfl) (fun _ => by simp; omega)) ?_)
        refine tk 12 rfl (Ev.buildS (fs := _) (places := [(0, 1), (1, 1)]) z168 rfl Tryz.underlying168 zk (.cons (.t rfl) (.cons (.t rfl) .nil)) (Fills.cons SFault.l_code rfl (Fills.cons SFault.l_at_ rfl Fills.nil))) ?_
        refine all [4, 13] zk (by decide) (.cons rfl ?_ (.cons rfl ?_ .nil))
        · refine (opv (Ev.ldv ty119 (.t rfl) SConfFaults.l_l) ?_)
          refine hdn (al1 13 rfl ((buildSlice (E := eFault) Tryz.underlying119 ty168 z168 (.cons (.t rfl) .nil) rfl rfl (fun v4 => ?_))))
          refine hdn (al1 14 rfl ((app (E := eFault) Tryz.underlying119 ty168 zb168 zs168 (.t rfl) (.t rfl) (fun v5 => ?_) (hby := ⟨by (show _ ≤ 9223372036854775807); have := faultsUp_len (fun j0 : Nat => g (xs.getD j0 eRule.zero) j0) d i.toNat; simp only [List.length_append, List.length_cons, List.length_nil]; omega, by have := faultsUp_len (fun j0 : Nat => g (xs.getD j0 eRule.zero) j0) d i.toNat; simp only [List.length_append, List.length_cons, List.length_nil]; omega⟩))))
          refine hdn (tk 15 rfl (Ev.nilCheck (.t rfl)) ?_)
          refine tk 16 rfl (fA 0 (.t rfl)) ?_
          refine al1 17 rfl ((stv ty119 SConfFaults.l_l (.t rfl) (.t rfl) ?_))
          refine hdn (ovr (bN (pN (region (co (Ev.add_i (.t rfl) (.c (v := I 1) rfl) (fun _ => zo)) ?_)))))
          refine mv rfl (nP (nx (X := Int × OV) (i + 1, _) ?_ ?_ (hL := (by rw [hst]; (try rw [← List.append_assoc]); repeat first | exact sR | exact sN | apply sC | apply sS | apply sA))))
          · try dsimp only
            omega
          · try dsimp only
            omega
        · refine (buildSlice (E := eFault) Tryz.underlying119 ty168 z168 (.cons (.t rfl) .nil) rfl rfl (fun v6 => ?_))
          refine hdn (al1 4 rfl ((opv (Ev.ldv ty119 (.t rfl) SConfFaults.l_l) ?_)))
          refine hdn (al1 14 rfl ((app (E := eFault) Tryz.underlying119 ty168 zb168 zs168 (.t rfl) (.t rfl) (fun v7 => ?_) (hby := ⟨by (show _ ≤ 9223372036854775807); have := faultsUp_len (fun j0 : Nat => g (xs.getD j0 eRule.zero) j0) d i.toNat; simp only [List.length_append, List.length_cons, List.length_nil]; omega, by have := faultsUp_len (fun j0 : Nat => g (xs.getD j0 eRule.zero) j0) d i.toNat; simp only [List.length_append, List.length_cons, List.length_nil]; omega⟩))))
          refine hdn (tk 15 rfl (Ev.nilCheck (.t rfl)) ?_)
          refine tk 16 rfl (fA 0 (.t rfl)) ?_
          refine al1 17 rfl ((stv ty119 SConfFaults.l_l (.t rfl) (.t rfl) ?_))
          refine hdn (ovr (bN (pN (region (co (Ev.add_i (.t rfl) (.c (v := I 1) rfl) (fun _ => zo)) ?_)))))
          refine mv rfl (nP (nx (X := Int × OV) (i + 1, _) ?_ ?_ (hL := (by rw [hst]; (try rw [← List.append_assoc]); repeat first | exact sR | exact sN | apply sC | apply sS | apply sA))))
          · try dsimp only
            omega
          · try dsimp only
            omega
    · try simp only [Gx.nb] at h1
      have ei : ((i.toNat : Nat) : Int) = i := by omega
      have hst := faultsUp_ok (e := (fun j0 : Nat => g (xs.getD j0 eRule.zero) j0)) (d := d) hi.1 (by (try dsimp only); rw [ei]; exact h1)
      refine skip (bN (pN (region (co (Ev.add_i (.t rfl) (.c (v := I 1) rfl) (fun _ => zo)) ?_))))
      refine mv rfl (nP (nx (X := Int × OV) (i + 1, _) ?_ ?_ (hL := (by rw [hst]; (try rw [← List.append_assoc]); repeat first | exact sR | exact sN | apply sC | apply sS | apply sA))))
      · try dsimp only
        omega
      · try dsimp only
        omega
  · try simp only [Gx.nb] at h0
    refine exit (pX (pX (bX (pN (cut (X := OV) (fun x : OV => True) (fun x : OV => [dz, (0, true, .pointer (some ⟨b, 0, none⟩)), (1, true, u)]) (fun x : OV => [Var b eConfFaults ⟨x, d⟩ 210, OwnS x.v eFault (fs ++ listG (fun j0 : Nat => g (xs.getD j0 eRule.zero) j0) d xs.length most) 168]) ?_ (fun x hx => ?_))))))
    · refine sg ?_
      have him : i.toNat = m := by omega
      rw [him]
      refine mv rfl (co (Ev.len Tryz.underlying24 (.t rfl) (fun w I => hxs w I.keeps)) ?_)
      refine mv rfl (co (Ev.gtr_i (.t rfl) (.t rfl)) ?_)
      refine nP ?_
      first | refine condD rfl (fun h2 => ?_) (fun h2 => ?_) | refine cond rfl (fun h2 => ?_) (fun h2 => ?_)
      · try simp only [Gx.nb] at h2
        refine draw [] zk ?_
        refine tk 0 rfl (Ev.move (.t rfl)) ?_
        refine tk 1 rfl (Ev.move (.t rfl)) ?_
        refine tk 2 rfl (Ev.nilCheck (.t rfl)) ?_
        refine tk 3 rfl (fA 0 (.t rfl)) ?_
        refine tk 5 rfl (Ev.move (.t rfl)) ?_
        refine tk 6 rfl (Ev.nilCheck (.t rfl)) ?_
        refine tk 7 rfl (fA 1 (.t rfl)) ?_
        refine tk 9 rfl (Ev.move (.t rfl)) ?_
        refine all [4, 8] zk (by decide) (.cons rfl ?_ (.cons rfl ?_ .nil))
        · refine (opv (Ev.ldv ty119 (.t rfl) SConfFaults.l_l) ?_)
          refine hdn (al1 8 rfl ((opv (Ev.ldv ty3 (.t rfl) SConfFaults.l_at_) ?_)))
          refine hdn (tk 10 rfl (Ev.add_i (.t rfl) (.t rfl) (fun _ => by simp; omega)) ?_)
          refine tk 11 rfl (Ev.buildS (fs := _) (places := [(0, 1), (1, 1)]) z168 rfl Tryz.underlying168 zk (.cons (.c (v := I 4) rfl) (.cons (.t rfl) .nil)) (Fills.cons SFault.l_code rfl (Fills.cons SFault.l_at_ rfl Fills.nil))) ?_
          refine al1 12 rfl ((buildSlice (E := eFault) Tryz.underlying119 ty168 z168 (.cons (.t rfl) .nil) rfl rfl (fun v8 => ?_)))
          refine hdn (al1 13 rfl ((app (E := eFault) Tryz.underlying119 ty168 zb168 zs168 (.t rfl) (.t rfl) (fun v9 => ?_) (hby := ⟨by (show _ ≤ 9223372036854775807); have := faultsUp_len (fun j0 : Nat => g (xs.getD j0 eRule.zero) j0) d m; simp only [List.length_append, List.length_cons, List.length_nil]; omega, by have := faultsUp_len (fun j0 : Nat => g (xs.getD j0 eRule.zero) j0) d m; simp only [List.length_append, List.length_cons, List.length_nil]; omega⟩))))
          refine hdn (tk 14 rfl (Ev.nilCheck (.t rfl)) ?_)
          refine tk 15 rfl (fA 0 (.t rfl)) ?_
          refine al1 16 rfl ((stv ty119 SConfFaults.l_l (.t rfl) (.t rfl) ?_))
          refine hdn (ovr (pN (mt (X := OV) (_) trivial (hL := (by unfold listG; rw [← hm2]; (first | rw [if_pos (by omega), ← List.append_assoc] | rw [if_neg (by omega), List.append_nil]); repeat first | exact sR | exact sN | apply sC | apply sS | apply sA)))))
        · refine (opv (Ev.ldv ty3 (.t rfl) SConfFaults.l_at_) ?_)
          refine hdn (tk 10 rfl (Ev.add_i (.t rfl) (.t rfl) (fun _ => by simp; omega)) ?_)
          refine tk 11 rfl (Ev.buildS (fs := _) (places := [(0, 1), (1, 1)]) z168 rfl Tryz.underlying168 zk (.cons (.c (v := I 4) rfl) (.cons (.t rfl) .nil)) (Fills.cons SFault.l_code rfl (Fills.cons SFault.l_at_ rfl Fills.nil))) ?_
          refine all [4, 12] zk (by decide) (.cons rfl ?_ (.cons rfl ?_ .nil))
          · refine (opv (Ev.ldv ty119 (.t rfl) SConfFaults.l_l) ?_)
            refine hdn (al1 12 rfl ((buildSlice (E := eFault) Tryz.underlying119 ty168 z168 (.cons (.t rfl) .nil) rfl rfl (fun v10 => ?_))))
            refine hdn (al1 13 rfl ((app (E := eFault) Tryz.underlying119 ty168 zb168 zs168 (.t rfl) (.t rfl) (fun v11 => ?_) (hby := ⟨by (show _ ≤ 9223372036854775807); have := faultsUp_len (fun j0 : Nat => g (xs.getD j0 eRule.zero) j0) d m; simp only [List.length_append, List.length_cons, List.length_nil]; omega, by have := faultsUp_len (fun j0 : Nat => g (xs.getD j0 eRule.zero) j0) d m; simp only [List.length_append, List.length_cons, List.length_nil]; omega⟩))))
            refine hdn (tk 14 rfl (Ev.nilCheck (.t rfl)) ?_)
            refine tk 15 rfl (fA 0 (.t rfl)) ?_
            refine al1 16 rfl ((stv ty119 SConfFaults.l_l (.t rfl) (.t rfl) ?_))
            refine hdn (ovr (pN (mt (X := OV) (_) trivial (hL := (by unfold listG; rw [← hm2]; (first | rw [if_pos (by omega), ← List.append_assoc] | rw [if_neg (by omega), List.append_nil]); repeat first | exact sR | exact sN | apply sC | apply sS | apply sA)))))
          · refine (buildSlice (E := eFault) Tryz.underlying119 ty168 z168 (.cons (.t rfl) .nil) rfl rfl (fun v12 => ?_))
            refine hdn (al1 4 rfl ((opv (Ev.ldv ty119 (.t rfl) SConfFaults.l_l) ?_)))
            refine hdn (al1 13 rfl ((app (E := eFault) Tryz.underlying119 ty168 zb168 zs168 (.t rfl) (.t rfl) (fun v13 => ?_) (hby := ⟨by (show _ ≤ 9223372036854775807); have := faultsUp_len (fun j0 : Nat => g (xs.getD j0 eRule.zero) j0) d m; simp only [List.length_append, List.length_cons, List.length_nil]; omega, by have := faultsUp_len (fun j0 : Nat => g (xs.getD j0 eRule.zero) j0) d m; simp only [List.length_append, List.length_cons, List.length_nil]; omega⟩))))
            refine hdn (tk 14 rfl (Ev.nilCheck (.t rfl)) ?_)
            refine tk 15 rfl (fA 0 (.t rfl)) ?_
            refine al1 16 rfl ((stv ty119 SConfFaults.l_l (.t rfl) (.t rfl) ?_))
            refine hdn (ovr (pN (mt (X := OV) (_) trivial (hL := (by unfold listG; rw [← hm2]; (first | rw [if_pos (by omega), ← List.append_assoc] | rw [if_neg (by omega), List.append_nil]); repeat first | exact sR | exact sN | apply sC | apply sS | apply sA)))))
      · try simp only [Gx.nb] at h2
        refine skip (pN (mt (X := OV) (_) trivial (hL := (by unfold listG; rw [← hm2]; (first | rw [if_pos (by omega), ← List.append_assoc] | rw [if_neg (by omega), List.append_nil]); repeat first | exact sR | exact sN | apply sC | apply sS | apply sA))))
    obtain ⟨q2, rfl⟩ : ∃ y, y = x := ⟨x, rfl⟩
    show Sat _ _ [dz, (0, true, .pointer (some ⟨b, 0, none⟩)), (1, true, u)] [Var b eConfFaults ⟨q2, d⟩ 210, OwnS q2.v eFault (fs ++ listG (fun j0 : Nat => g (xs.getD j0 eRule.zero) j0) d xs.length most) 168]
    refine region (mv rfl (co (Ev.nilCheck (.t rfl)) ?_))
    refine co (fA 1 (.t rfl)) ?_
    refine co (Ev.ldv ty3 (.t rfl) SConfFaults.l_at_) ?_
    refine mv rfl (co (Ev.len Tryz.underlying24 (.t rfl) (fun w I => hxs w I.keeps)) ?_)
    refine co (Ev.add_i (.t rfl) (.t rfl) (fun _ => by simp; omega)) ?_
    refine co (Ev.nilCheck (.t rfl)) ?_
    refine co (fA 1 (.t rfl)) ?_
    refine cons (stv ty3 SConfFaults.l_at_ (.t rfl) (.t rfl) ?_)
    refine nil (done' rfl .nil (fun w I => ?_))
    exact retR (r' := fun o2 => FR b o2 (fs ++ listG (fun j0 : Nat => g (xs.getD j0 eRule.zero) j0) d xs.length most) (d + xs.length)) _ trivial rfl (List.mem_singleton_self _) w (WInv.sepIn (I.sub zs))
set_option maxRecDepth 8000 in
theorem list_134 (f : Nat) (fst cap : List Value) (g : SMeterConf → Int → Int) (D : SMeterConf → Int → Prop) (b : Nat) (o : OV) (fs : List SFault) (d : Int) (u : Value) (xs : List SMeterConf) (most : Nat) (w : World) (hen : Gx.Enters Tryz.prog f) (h : At (FR b o fs d) w) (hxs : ∀ w1, Keeps (FR b o fs d).foot w w1 → IsSl eMeterConf w1 u xs) (hk : FnB2 Tryz.prog f fst cap (FR b o fs d).foot w eMeterConf iE iE D g) (hD : ∀ i : Nat, i < xs.length → D (xs.getD i eMeterConf.zero) i) (hd : 0 ≤ d ∧ d + xs.length ≤ 4611686018427387904) (hf : fs.length + most ≤ 100000) : Calls Tryz.prog 99 #[.pointer (some ⟨b, 0, none⟩), u, I most, (bnd f fst cap).v] w (RetR w (FR b o fs d) (fun _ : OV => True) (fun _ => .tuple #[]) (fun o2 => FR b o2 (fs ++ listG (fun j0 : Nat => g (xs.getD j0 eMeterConf.zero) j0) d xs.length most) (d + xs.length))) := by
  obtain ⟨m, hm⟩ : ∃ m : Nat, (min (xs.length : Int) (most : Int)) = (m : Int) := ⟨min xs.length most, by omega⟩
  have hm2 : m = min xs.length most := by omega
  have hle := (hxs w (Keeps.refl _ _)).le
  have htl : (xs.take m).length = m := by simp; omega
  refine enter (FR b o fs d).foot 76 [FR b o fs d] Tryz.func99 rfl rfl (Nat.le_of_ble_eq_true rfl) (start_at h) ?_
  refine sepOut Rem.head ?_
  refine seq (sg (mv rfl (mv rfl (co (Ev.len Tryz.underlying25 (.t rfl) (fun w I => hxs w I.keeps)) ?_))))
  refine mv rfl (co (Ev.to (v' := I ((m : Nat) : Int)) (Ev.min_i (.t rfl) (.t rfl)) (by rw [hm])) ?_)
  refine co (Ev.sliceH Tryz.underlying25 ty134 (.t rfl) (.t rfl) (fun w I => hxs w I.keeps) (fun _ => zo)) ?_
  refine co (Ev.len Tryz.underlying25 (.t rfl) (fun w I => by have := (hxs w I.keeps).sub (l := 0) (k := m) (by omega) (by omega); simpa using this)) ?_
  refine co (Ev.move (.c (v := I 0) rfl)) ?_
  refine nP (block (lp (X := Int × OV) (fun x : Int × OV => (0 ≤ x.1 ∧ x.1 ≤ m)) (fun x : Int × OV => [dz, (0, true, .pointer (some ⟨b, 0, none⟩)), (1, true, u), (2, true, I most), (3, true, (bnd f fst cap).v), (16, true, subS eMeterConf.size u 0 m), (17, true, I (xs.take m).length), (18, true, I x.1)]) (fun x : Int × OV => [Var b eConfFaults ⟨x.2, d⟩ 210, OwnS x.2.v eFault (fs ++ faultsUp (fun j0 : Nat => g (xs.getD j0 eMeterConf.zero) j0) d x.1.toNat) 168]) (fun x : Int × OV => ((m : Int) - x.1).toNat) (0, o) ?_ (fun x hx => ?_) (hL := (by simp only [show (0 : Int).toNat = 0 from rfl, faultsUp, List.append_nil]; repeat first | exact sR | exact sN | apply sC | apply sS | apply sA))))
  · omega
  obtain ⟨i, q⟩ := x
  have hi : 0 ≤ i ∧ i ≤ m := hx
  clear hx
  show Sat _ _ [dz, (0, true, .pointer (some ⟨b, 0, none⟩)), (1, true, u), (2, true, I most), (3, true, (bnd f fst cap).v), (16, true, subS eMeterConf.size u 0 m), (17, true, I (xs.take m).length), (18, true, I i)] [Var b eConfFaults ⟨q, d⟩ 210, OwnS q.v eFault (fs ++ faultsUp (fun j0 : Nat => g (xs.getD j0 eMeterConf.zero) j0) d i.toNat) 168]
  refine sg (co (Ev.lss_i (.t rfl) (.t rfl)) ?_)
  refine nP (seq ?_)
  first | refine condD rfl (fun h0 => ?_) (fun h0 => ?_) | refine cond rfl (fun h0 => ?_) (fun h0 => ?_)
  · try simp only [Gx.nb] at h0
    refine skip (pN (seq (block (sg (mv rfl (co (Ev.indexAddr Tryz.underlying25 ty134 (.t rfl) (.t rfl) (fun w I => by have := (hxs w I.keeps).sub (l := 0) (k := m) (by omega) (by omega); simpa using this) (fun _ => by omega)) ?_))))))
    refine co (Ev.to (v' := eMeterConf.val (xs.getD i.toNat eMeterConf.zero)) (Ev.loadS0 ty134 (.t rfl) (fun w I => by have := (hxs w I.keeps).sub (l := 0) (k := m) (by omega) (by omega); simpa using this) (fun _ => by omega)) (congrArg eMeterConf.val (getD_take'' xs m i.toNat _ (by omega)))) ?_
    refine cons (alloc z134 (fun b1 => ?_))
    refine asn rfl (cons (stv ty134 (Lens.id _) (.t rfl) (.t rfl) ?_))
    refine nP (sg (mv rfl (co (Ev.ldv ty134 (.t rfl) (Lens.id _)) ?_)))
    refine mv rfl (cons (callbv (.t rfl) hen (.cons (.t rfl) (.cons (.t rfl) .nil)) (fun w I => hk (xs.getD i.toNat eMeterConf.zero) i w (by have := hD i.toNat (by omega); rwa [show ((i.toNat : Nat) : Int) = i by omega] at this) I.keeps) ?_))
    refine asn rfl (nP (sg (mv rfl (co (Ev.neq_i (.t rfl) (.c (v := I 0) rfl)) ?_))))
    refine nP ?_
    first | refine condD rfl (fun h1 => ?_) (fun h1 => ?_) | refine cond rfl (fun h1 => ?_) (fun h1 => ?_)
    · try simp only [Gx.nb] at h1
      have ei : ((i.toNat : Nat) : Int) = i := by omega
      have hst := faultsUp_bad (e := (fun j0 : Nat => g (xs.getD j0 eMeterConf.zero) j0)) (d := d) hi.1 (by (try dsimp only); rw [ei]; exact h1)
      (try dsimp only at hst)
      rw [ei] at hst
      refine draw [] zk ?_
      refine tk 0 rfl (Ev.move (.t rfl)) ?_
      refine tk 1 rfl (Ev.move (.t rfl)) ?_
      refine tk 2 rfl (Ev.nilCheck (.t rfl)) ?_
      refine tk 3 rfl (fA 0 (.t rfl)) ?_
      refine tk 5 rfl (Ev.move (.t rfl)) ?_
      refine tk 6 rfl (Ev.move (.t rfl)) ?_
      refine tk 7 rfl (Ev.nilCheck (.t rfl)) ?_
      refine tk 8 rfl (fA 1 (.t rfl)) ?_
      refine tk 10 rfl (Ev.move (.t rfl)) ?_
      refine all [4, 9] zk (by decide) (.cons rfl ?_ (.cons rfl ?_ .nil))
      · refine (opv (Ev.ldv ty119 (.t rfl) SConfFaults.l_l) ?_)
        refine hdn (al1 9 rfl ((opv (Ev.ldv ty3 (.t rfl) SConfFaults.l_at_) ?_)))
        refine hdn (tk 11 rfl (Ev.add_i (.t rfl) (.t rfl) (fun _ => by simp; omega)) ?_)
        refine tk 12 rfl (Ev.buildS (fs := _) (places := [(0, 1), (1, 1)]) z168 rfl Tryz.underlying168 zk (.cons (.t rfl) (.cons (.t rfl) .nil)) (Fills.cons SFault.l_code rfl (Fills.cons SFault.l_at_ rfl Fills.nil))) ?_
        refine al1 13 rfl ((buildSlice (E := eFault) Tryz.underlying119 ty168 z168 (.cons (.t rfl) .nil) rfl rfl (fun v2 => ?_)))
        refine hdn (al1 14 rfl ((app (E := eFault) Tryz.underlying119 ty168 zb168 zs168 (.t rfl) (.t rfl) (fun v3 => ?_) (hby := ⟨by (show _ ≤ 9223372036854775807); have := faultsUp_len (fun j0 : Nat => g (xs.getD j0 eMeterConf.zero) j0) d i.toNat; simp only [List.length_append, List.length_cons, List.length_nil]; omega, by have := faultsUp_len (fun j0 : Nat => g (xs.getD j0 eMeterConf.zero) j0) d i.toNat; simp only [List.length_append, List.length_cons, List.length_nil]; omega⟩))))
        refine hdn (tk 15 rfl (Ev.nilCheck (.t rfl)) ?_)
        refine tk 16 rfl (fA 0 (.t rfl)) ?_
        refine al1 17 rfl ((stv ty119 SConfFaults.l_l (.t rfl) (.t rfl) ?_))
        refine hdn (ovr (bN (pN (region (co (Ev.add_i (.t rfl) (.c (v := I 1) rfl) (fun _ => zo)) ?_)))))
        refine mv rfl (nP (nx (X := Int × OV) (i + 1, _) ?_ ?_ (hL := (by rw [hst]; (try rw [← List.append_assoc]); repeat first | exact sR | exact sN | apply sC | apply sS | apply sA))))
        · try dsimp only
          omega
        · try dsimp only
          omega
      · refine (opv (Ev.ldv ty3 (.t rfl) SConfFaults.l_at_) ?_)
        refine hdn (tk 11 rfl (Ev.add_i (.t rfl) (.t rfl) (fun _ => by simp; omega)) ?_)
        refine tk 12 rfl (Ev.buildS (fs := _) (places := [(0, 1), (1, 1)]) z168 rfl Tryz.underlying168 zk (.cons (.t rfl) (.cons (.t rfl) .nil)) (Fills.cons SFault.l_code rfl (Fills.cons SFault.l_at_ rfl Fills.nil))) ?_
        refine all [4, 13] zk (by decide) (.cons rfl ?_ (.cons rfl ?_ .nil))
        · refine (opv (Ev.ldv ty119 (.t rfl) SConfFaults.l_l) ?_)
          refine hdn (al1 13 rfl ((buildSlice (E := eFault) Tryz.underlying119 ty168 z168 (.cons (.t rfl) .nil) rfl rfl (fun v4 => ?_))))
          refine hdn (al1 14 rfl ((app (E := eFault) Tryz.underlying119 ty168 zb168 zs168 (.t rfl) (.t rfl) (fun v5 => ?_) (hby := ⟨by (show _ ≤ 9223372036854775807); have := faultsUp_len (fun j0 : Nat => g (xs.getD j0 eMeterConf.zero) j0) d i.toNat; simp only [List.length_append, List.length_cons, List.length_nil]; omega, by have := faultsUp_len (fun j0 : Nat => g (xs.getD j0 eMeterConf.zero) j0) d i.toNat; simp only [List.length_append, List.length_cons, List.length_nil]; omega⟩))))
          refine hdn (tk 15 rfl (Ev.nilCheck (.t rfl)) ?_)
          refine tk 16 rfl (fA 0 (.t rfl)) ?_
          refine al1 17 rfl ((stv ty119 SConfFaults.l_l (.t rfl) (.t rfl) ?_))
          refine hdn (ovr (bN (pN (region (co (Ev.add_i (.t rfl) (.c (v := I 1) rfl) (fun _ => zo)) ?_)))))
          refine mv rfl (nP (nx (X := Int × OV) (i + 1, _) ?_ ?_ (hL := (by rw [hst]; (try rw [← List.append_assoc]); repeat first | exact sR | exact sN | apply sC | apply sS | apply sA))))
          · try dsimp only
            omega
          · try dsimp only
            omega
        · refine (buildSlice (E := eFault) Tryz.underlying119 ty168 z168 (.cons (.t rfl) .nil) rfl rfl (fun v6 => ?_))
          refine hdn (al1 4 rfl ((opv (Ev.ldv ty119 (.t rfl) SConfFaults.l_l) ?_)))
          refine hdn (al1 14 rfl ((app (E := eFault) Tryz.underlying119 ty168 zb168 zs168 (.t rfl) (.t rfl) (fun v7 => ?_) (hby := ⟨by (show _ ≤ 9223372036854775807); have := faultsUp_len (fun j0 : Nat => g (xs.getD j0 eMeterConf.zero) j0) d i.toNat; simp only [List.length_append, List.length_cons, List.length_nil]; omega, by have := faultsUp_len (fun j0 : Nat => g (xs.getD j0 eMeterConf.zero) j0) d i.toNat; simp only [List.length_append, List.length_cons, List.length_nil]; omega⟩))))
          refine hdn (tk 15 rfl (Ev.nilCheck (.t rfl)) ?_)
          refine tk 16 rfl (fA 0 (.t rfl)) ?_
          refine al1 17 rfl ((stv ty119 SConfFaults.l_l (.t rfl) (.t rfl) ?_))
          refine hdn (ovr (bN (pN (region (co (Ev.add_i (.t rfl) (.c (v := I 1) rfl) (fun _ => zo)) ?_)))))
          refine mv rfl (nP (nx (X := Int × OV) (i + 1, _) ?_ ?_ (hL := (by rw [hst]; (try rw [← List.append_assoc]); repeat first | exact sR | exact sN | apply sC | apply sS | apply sA))))
          · try dsimp only
            omega
          · try dsimp only
            omega
    · try simp only [Gx.nb] at h1
      have ei : ((i.toNat : Nat) : Int) = i := by omega
      have hst := faultsUp_ok (e := (fun j0 : Nat => g (xs.getD j0 eMeterConf.zero) j0)) (d := d) hi.1 (by (try dsimp only); rw [ei]; exact h1)
      refine skip (bN (pN (region (co (Ev.add_i (.t rfl) (.c (v := I 1) rfl) (fun _ => zo)) ?_))))
      refine mv rfl (nP (nx (X := Int × OV) (i + 1, _) ?_ ?_ (hL := (by rw [hst]; (try rw [← List.append_assoc]); repeat first | exact sR | exact sN | apply sC | apply sS | apply sA))))
      · try dsimp only
        omega
      · try dsimp only
        omega
  · try simp only [Gx.nb] at h0
    refine exit (pX (pX (bX (pN (cut (X := OV) (fun x : OV => True) (fun x : OV => [dz, (0, true, .pointer (some ⟨b, 0, none⟩)), (1, true, u)]) (fun x : OV => [Var b eConfFaults ⟨x, d⟩ 210, OwnS x.v eFault (fs ++ listG (fun j0 : Nat => g (xs.getD j0 eMeterConf.zero) j0) d xs.length most) 168]) ?_ (fun x hx => ?_))))))
    · refine sg ?_
      have him : i.toNat = m := by omega
      rw [him]
      refine mv rfl (co (Ev.len Tryz.underlying25 (.t rfl) (fun w I => hxs w I.keeps)) ?_)
      refine mv rfl (co (Ev.gtr_i (.t rfl) (.t rfl)) ?_)
      refine nP ?_
      first | refine condD rfl (fun h2 => ?_) (fun h2 => ?_) | refine cond rfl (fun h2 => ?_) (fun h2 => ?_)
      · try simp only [Gx.nb] at h2
        refine draw [] zk ?_
        refine tk 0 rfl (Ev.move (.t rfl)) ?_
        refine tk 1 rfl (Ev.move (.t rfl)) ?_
        refine tk 2 rfl (Ev.nilCheck (.t rfl)) ?_
        refine tk 3 rfl (fA 0 (.t rfl)) ?_
        refine tk 5 rfl (Ev.move (.t rfl)) ?_
        refine tk 6 rfl (Ev.nilCheck (.t rfl)) ?_
        refine tk 7 rfl (fA 1 (.t rfl)) ?_
        refine tk 9 rfl (Ev.move (.t rfl)) ?_
        refine all [4, 8] zk (by decide) (.cons rfl ?_ (.cons rfl ?_ .nil))
        · refine (opv (Ev.ldv ty119 (.t rfl) SConfFaults.l_l) ?_)
          refine hdn (al1 8 rfl ((opv (Ev.ldv ty3 (.t rfl) SConfFaults.l_at_) ?_)))
          refine hdn (tk 10 rfl (Ev.add_i (.t rfl) (.t rfl) (fun _ => by simp; omega)) ?_)
          refine tk 11 rfl (Ev.buildS (fs := _) (places := [(0, 1), (1, 1)]) z168 rfl Tryz.underlying168 zk (.cons (.c (v := I 4) rfl) (.cons (.t rfl) .nil)) (Fills.cons SFault.l_code rfl (Fills.cons SFault.l_at_ rfl Fills.nil))) ?_
          refine al1 12 rfl ((buildSlice (E := eFault) Tryz.underlying119 ty168 z168 (.cons (.t rfl) .nil) rfl rfl (fun v8 => ?_)))
          refine hdn (al1 13 rfl ((app (E := eFault) Tryz.underlying119 ty168 zb168 zs168 (.t rfl) (.t rfl) (fun v9 => ?_) (hby := ⟨by (show _ ≤ 9223372036854775807); have := faultsUp_len (fun j0 : Nat => g (xs.getD j0 eMeterConf.zero) j0) d m; simp only [List.length_append, List.length_cons, List.length_nil]; omega, by have := faultsUp_len (fun j0 : Nat => g (xs.getD j0 eMeterConf.zero) j0) d m; simp only [List.length_append, List.length_cons, List.length_nil]; omega⟩))))
          refine hdn (tk 14 rfl (Ev.nilCheck (.t rfl)) ?_)
          refine tk 15 rfl (fA 0 (.t rfl)) ?_
          refine al1 16 rfl ((stv ty119 SConfFaults.l_l (.t rfl) (.t rfl) ?_))
          refine hdn (ovr (pN (mt (X := OV) (_) trivial (hL := (by unfold listG; rw [← hm2]; (first | rw [if_pos (by omega), ← List.append_assoc] | rw [if_neg (by omega), List.append_nil]); repeat first | exact sR | exact sN | apply sC | apply sS | apply sA)))))
        · refine (opv (Ev.ldv ty3 (.t rfl) SConfFaults.l_at_) ?_)
          refine hdn (tk 10 rfl (Ev.add_i (.t rfl) (.t rfl) (fun _ => by simp; omega)) ?_)
          refine tk 11 rfl (Ev.buildS (fs := _) (places := [(0, 1), (1, 1)]) z168 rfl Tryz.underlying168 zk (.cons (.c (v := I 4) rfl) (.cons (.t rfl) .nil)) (Fills.cons SFault.l_code rfl (Fills.cons SFault.l_at_ rfl Fills.nil))) ?_
          refine all [4, 12] zk (by decide) (.cons rfl ?_ (.cons rfl ?_ .nil))
          · refine (opv (Ev.ldv ty119 (.t rfl) SConfFaults.l_l) ?_)
            refine hdn (al1 12 rfl ((buildSlice (E := eFault) Tryz.underlying119 ty168 z168 (.cons (.t rfl) .nil) rfl rfl (fun v10 => ?_))))
            refine hdn (al1 13 rfl ((app (E := eFault) Tryz.underlying119 ty168 zb168 zs168 (.t rfl) (.t rfl) (fun v11 => ?_) (hby := ⟨by (show _ ≤ 9223372036854775807); have := faultsUp_len (fun j0 : Nat => g (xs.getD j0 eMeterConf.zero) j0) d m; simp only [List.length_append, List.length_cons, List.length_nil]; omega, by have := faultsUp_len (fun j0 : Nat => g (xs.getD j0 eMeterConf.zero) j0) d m; simp only [List.length_append, List.length_cons, List.length_nil]; omega⟩))))
            refine hdn (tk 14 rfl (Ev.nilCheck (.t rfl)) ?_)
            refine tk 15 rfl (fA 0 (.t rfl)) ?_
            refine al1 16 rfl ((stv ty119 SConfFaults.l_l (.t rfl) (.t rfl) ?_))
            refine hdn (ovr (pN (mt (X := OV) (_) trivial (hL := (by unfold listG; rw [← hm2]; (first | rw [if_pos (by omega), ← List.append_assoc] | rw [if_neg (by omega), List.append_nil]); repeat first | exact sR | exact sN | apply sC | apply sS | apply sA)))))
          · refine (buildSlice (E := eFault) Tryz.underlying119 ty168 z168 (.cons (.t rfl) .nil) rfl rfl (fun v12 => ?_))
            refine hdn (al1 4 rfl ((opv (Ev.ldv ty119 (.t rfl) SConfFaults.l_l) ?_)))
            refine hdn (al1 13 rfl ((app (E := eFault) Tryz.underlying119 ty168 zb168 zs168 (.t rfl) (.t rfl) (fun v13 => ?_) (hby := ⟨by (show _ ≤ 9223372036854775807); have := faultsUp_len (fun j0 : Nat => g (xs.getD j0 eMeterConf.zero) j0) d m; simp only [List.length_append, List.length_cons, List.length_nil]; omega, by have := faultsUp_len (fun j0 : Nat => g (xs.getD j0 eMeterConf.zero) j0) d m; simp only [List.length_append, List.length_cons, List.length_nil]; omega⟩))))
            refine hdn (tk 14 rfl (Ev.nilCheck (.t rfl)) ?_)
            refine tk 15 rfl (fA 0 (.t rfl)) ?_
            refine al1 16 rfl ((stv ty119 SConfFaults.l_l (.t rfl) (.t rfl) ?_))
            refine hdn (ovr (pN (mt (X := OV) (_) trivial (hL := (by unfold listG; rw [← hm2]; (first | rw [if_pos (by omega), ← List.append_assoc] | rw [if_neg (by omega), List.append_nil]); repeat first | exact sR | exact sN | apply sC | apply sS | apply sA)))))
      · try simp only [Gx.nb] at h2
        refine skip (pN (mt (X := OV) (_) trivial (hL := (by unfold listG; rw [← hm2]; (first | rw [if_pos (by omega), ← List.append_assoc] | rw [if_neg (by omega), List.append_nil]); repeat first | exact sR | exact sN | apply sC | apply sS | apply sA))))
    obtain ⟨q2, rfl⟩ : ∃ y, y = x := ⟨x, rfl⟩
    show Sat _ _ [dz, (0, true, .pointer (some ⟨b, 0, none⟩)), (1, true, u)] [Var b eConfFaults ⟨q2, d⟩ 210, OwnS q2.v eFault (fs ++ listG (fun j0 : Nat => g (xs.getD j0 eMeterConf.zero) j0) d xs.length most) 168]
    refine region (mv rfl (co (Ev.nilCheck (.t rfl)) ?_))
    refine co (fA 1 (.t rfl)) ?_
    refine co (Ev.ldv ty3 (.t rfl) SConfFaults.l_at_) ?_
    refine mv rfl (co (Ev.len Tryz.underlying25 (.t rfl) (fun w I => hxs w I.keeps)) ?_)
    refine co (Ev.add_i (.t rfl) (.t rfl) (fun _ => by simp; omega)) ?_
    refine co (Ev.nilCheck (.t rfl)) ?_
    refine co (fA 1 (.t rfl)) ?_
    refine cons (stv ty3 SConfFaults.l_at_ (.t rfl) (.t rfl) ?_)
    refine nil (done' rfl .nil (fun w I => ?_))
    exact retR (r' := fun o2 => FR b o2 (fs ++ listG (fun j0 : Nat => g (xs.getD j0 eMeterConf.zero) j0) d xs.length most) (d + xs.length)) _ trivial rfl (List.mem_singleton_self _) w (WInv.sepIn (I.sub zs))
set_option maxRecDepth 8000 in
theorem list_136 (f : Nat) (fst cap : List Value) (g : SMirrorConf → Int → Int) (D : SMirrorConf → Int → Prop) (b : Nat) (o : OV) (fs : List SFault) (d : Int) (u : Value) (xs : List SMirrorConf) (most : Nat) (w : World) (hen : Gx.Enters Tryz.prog f) (h : At (FR b o fs d) w) (hxs : ∀ w1, Keeps (FR b o fs d).foot w w1 → IsSl eMirrorConf w1 u xs) (hk : FnB2 Tryz.prog f fst cap (FR b o fs d).foot w eMirrorConf iE iE D g) (hD : ∀ i : Nat, i < xs.length → D (xs.getD i eMirrorConf.zero) i) (hd : 0 ≤ d ∧ d + xs.length ≤ 4611686018427387904) (hf : fs.length + most ≤ 100000) : Calls Tryz.prog 101 #[.pointer (some ⟨b, 0, none⟩), u, I most, (bnd f fst cap).v] w (RetR w (FR b o fs d) (fun _ : OV => True) (fun _ => .tuple #[]) (fun o2 => FR b o2 (fs ++ listG (fun j0 : Nat => g (xs.getD j0 eMirrorConf.zero) j0) d xs.length most) (d + xs.length))) := by
  obtain ⟨m, hm⟩ : ∃ m : Nat, (min (xs.length : Int) (most : Int)) = (m : Int) := ⟨min xs.length most, by omega⟩
  have hm2 : m = min xs.length most := by omega
  have hle := (hxs w (Keeps.refl _ _)).le
  have htl : (xs.take m).length = m := by simp; omega
  refine enter (FR b o fs d).foot 76 [FR b o fs d] Tryz.func101 rfl rfl (Nat.le_of_ble_eq_true rfl) (start_at h) ?_
  refine sepOut Rem.head ?_
  refine seq (sg (mv rfl (mv rfl (co (Ev.len Tryz.underlying26 (.t rfl) (fun w I => hxs w I.keeps)) ?_))))
  refine mv rfl (co (Ev.to (v' := I ((m : Nat) : Int)) (Ev.min_i (.t rfl) (.t rfl)) (by rw [hm])) ?_)
  refine co (Ev.sliceH Tryz.underlying26 ty136 (.t rfl) (.t rfl) (fun w I => hxs w I.keeps) (fun _ => zo)) ?_
  refine co (Ev.len Tryz.underlying26 (.t rfl) (fun w I => by have := (hxs w I.keeps).sub (l := 0) (k := m) (by omega) (by omega); simpa using this)) ?_
  refine co (Ev.move (.c (v := I 0) rfl)) ?_
  refine nP (block (lp (X := Int × OV) (fun x : Int × OV => (0 ≤ x.1 ∧ x.1 ≤ m)) (fun x : Int × OV => [dz, (0, true, .pointer (some ⟨b, 0, none⟩)), (1, true, u), (2, true, I most), (3, true, (bnd f fst cap).v), (16, true, subS eMirrorConf.size u 0 m), (17, true, I (xs.take m).length), (18, true, I x.1)]) (fun x : Int × OV => [Var b eConfFaults ⟨x.2, d⟩ 210, OwnS x.2.v eFault (fs ++ faultsUp (fun j0 : Nat => g (xs.getD j0 eMirrorConf.zero) j0) d x.1.toNat) 168]) (fun x : Int × OV => ((m : Int) - x.1).toNat) (0, o) ?_ (fun x hx => ?_) (hL := (by simp only [show (0 : Int).toNat = 0 from rfl, faultsUp, List.append_nil]; repeat first | exact sR | exact sN | apply sC | apply sS | apply sA))))
  · omega
  obtain ⟨i, q⟩ := x
  have hi : 0 ≤ i ∧ i ≤ m := hx
  clear hx
  show Sat _ _ [dz, (0, true, .pointer (some ⟨b, 0, none⟩)), (1, true, u), (2, true, I most), (3, true, (bnd f fst cap).v), (16, true, subS eMirrorConf.size u 0 m), (17, true, I (xs.take m).length), (18, true, I i)] [Var b eConfFaults ⟨q, d⟩ 210, OwnS q.v eFault (fs ++ faultsUp (fun j0 : Nat => g (xs.getD j0 eMirrorConf.zero) j0) d i.toNat) 168]
  refine sg (co (Ev.lss_i (.t rfl) (.t rfl)) ?_)
  refine nP (seq ?_)
  first | refine condD rfl (fun h0 => ?_) (fun h0 => ?_) | refine cond rfl (fun h0 => ?_) (fun h0 => ?_)
  · try simp only [Gx.nb] at h0
    refine skip (pN (seq (block (sg (mv rfl (co (Ev.indexAddr Tryz.underlying26 ty136 (.t rfl) (.t rfl) (fun w I => by have := (hxs w I.keeps).sub (l := 0) (k := m) (by omega) (by omega); simpa using this) (fun _ => by omega)) ?_))))))
    refine co (Ev.to (v' := eMirrorConf.val (xs.getD i.toNat eMirrorConf.zero)) (Ev.loadS0 ty136 (.t rfl) (fun w I => by have := (hxs w I.keeps).sub (l := 0) (k := m) (by omega) (by omega); simpa using this) (fun _ => by omega)) (congrArg eMirrorConf.val (getD_take'' xs m i.toNat _ (by omega)))) ?_
    refine cons (alloc z136 (fun b1 => ?_))
    refine asn rfl (cons (stv ty136 (Lens.id _) (.t rfl) (.t rfl) ?_))
    refine nP (sg (mv rfl (co (Ev.ldv ty136 (.t rfl) (Lens.id _)) ?_)))
    refine mv rfl (cons (callbv (.t rfl) hen (.cons (.t rfl) (.cons (.t rfl) .nil)) (fun w I => hk (xs.getD i.toNat eMirrorConf.zero) i w (by have := hD i.toNat (by omega); rwa [show ((i.toNat : Nat) : Int) = i by omega] at this) I.keeps) ?_))
    refine asn rfl (nP (sg (mv rfl (co (Ev.neq_i (.t rfl) (.c (v := I 0) rfl)) ?_))))
    refine nP ?_
    first | refine condD rfl (fun h1 => ?_) (fun h1 => ?_) | refine cond rfl (fun h1 => ?_) (fun h1 => ?_)
    · try simp only [Gx.nb] at h1
      have ei : ((i.toNat : Nat) : Int) = i := by omega
      have hst := faultsUp_bad (e := (fun j0 : Nat => g (xs.getD j0 eMirrorConf.zero) j0)) (d := d) hi.1 (by (try dsimp only); rw [ei]; exact h1)
      (try dsimp only at hst)
      rw [ei] at hst
      refine draw [] zk ?_
      refine tk 0 rfl (Ev.move (.t rfl)) ?_
      refine tk 1 rfl (Ev.move (.t rfl)) ?_
      refine tk 2 rfl (Ev.nilCheck (.t rfl)) ?_
      refine tk 3 rfl (fA 0 (.t rfl)) ?_
      refine tk 5 rfl (Ev.move (.t rfl)) ?_
      refine tk 6 rfl (Ev.move (.t rfl)) ?_
      refine tk 7 rfl (Ev.nilCheck (.t rfl)) ?_
      refine tk 8 rfl (fA 1 (.t rfl)) ?_
      refine tk 10 rfl (Ev.move (.t rfl)) ?_
      refine all [4, 9] zk (by decide) (.cons rfl ?_ (.cons rfl ?_ .nil))
      · refine (opv (Ev.ldv ty119 (.t rfl) SConfFaults.l_l) ?_)
        refine hdn (al1 9 rfl ((opv (Ev.ldv ty3 (.t rfl) SConfFaults.l_at_) ?_)))
        refine hdn (tk 11 rfl (Ev.add_i (.t rfl) (.t rfl) (fun _ => by simp; omega)) ?_)
        refine tk 12 rfl (Ev.buildS (fs := _) (places := [(0, 1), (1, 1)]) z168 rfl Tryz.underlying168 zk (.cons (.t rfl) (.cons (.t rfl) .nil)) (Fills.cons SFault.l_code rfl (Fills.cons SFault.l_at_ rfl Fills.nil))) ?_
        refine al1 13 rfl ((buildSlice (E := eFault) Tryz.underlying119 ty168 z168 (.cons (.t rfl) .nil) rfl rfl (fun v2 => ?_)))
        refine hdn (al1 14 rfl ((app (E := eFault) Tryz.underlying119 ty168 zb168 zs168 (.t rfl) (.t rfl) (fun v3 => ?_) (hby := ⟨by (show _ ≤ 9223372036854775807); have := faultsUp_len (fun j0 : Nat => g (xs.getD j0 eMirrorConf.zero) j0) d i.toNat; simp only [List.length_append, List.length_cons, List.length_nil]; omega, by have := faultsUp_len (fun j0 : Nat => g (xs.getD j0 eMirrorConf.zero) j0) d i.toNat; simp only [List.length_append, List.length_cons, List.length_nil]; omega⟩))))
        refine hdn (tk 15 rfl (Ev.nilCheck (.t rfl)) ?_)
        refine tk 16 rfl (fA 0 (.t rfl)) ?_
        refine al1 17 rfl ((stv ty119 SConfFaults.l_l (.t rfl) (.t rfl) ?_))
        refine hdn (ovr (bN (pN (region (co (Ev.add_i (.t rfl) (.c (v := I 1) rfl) (fun _ => zo)) ?_)))))
        refine mv rfl (nP (nx (X := Int × OV) (i + 1, _) ?_ ?_ (hL := (by rw [hst]; (try rw [← List.append_assoc]); repeat first | exact sR | exact sN | apply sC | apply sS | apply sA))))
        · try dsimp only
          omega
        · try dsimp only
          omega
      · refine (opv (Ev.ldv ty3 (.t rfl) SConfFaults.l_at_) ?_)
        refine hdn (tk 11 rfl (Ev.add_i (.t rfl) (.t rfl) (fun _ => by simp; omega)) ?_)
        refine tk 12 rfl (Ev.buildS (fs := _) (places := [(0, 1), (1, 1)]) z168 rfl Tryz.underlying168 zk (.cons (.t rfl) (.cons (.t rfl) .nil)) (Fills.cons SFault.l_code rfl (Fills.cons SFault.l_at_ rfl Fills.nil))) ?_
        refine all [4, 13] zk (by decide) (.cons rfl ?_ (.cons rfl ?_ .nil))
        · refine (opv (Ev.ldv ty119 (.t rfl) SConfFaults.l_l) ?_)
          refine hdn (al1 13 rfl ((buildSlice (E := eFault) Tryz.underlying119 ty168 z168 (.cons (.t rfl) .nil) rfl rfl (fun v4 => ?_))))
          refine hdn (al1 14 rfl ((app (E := eFault) Tryz.underlying119 ty168 zb168 zs168 (.t rfl) (.t rfl) (fun v5 => ?_) (hby := ⟨by (show _ ≤ 9223372036854775807); have := faultsUp_len (fun j0 : Nat => g (xs.getD j0 eMirrorConf.zero) j0) d i.toNat; simp only [List.length_append, List.length_cons, List.length_nil]; omega, by have := faultsUp_len (fun j0 : Nat => g (xs.getD j0 eMirrorConf.zero) j0) d i.toNat; simp only [List.length_append, List.length_cons, List.length_nil]; omega⟩))))
          refine hdn (tk 15 rfl (Ev.nilCheck (.t rfl)) ?_)
          refine tk 16 rfl (fA 0 (.t rfl)) ?_
          refine al1 17 rfl ((stv ty119 SConfFaults.l_l (.t rfl) (.t rfl) ?_))
          refine hdn (ovr (bN (pN (region (co (Ev.add_i (.t rfl) (.c (v := I 1) rfl) (fun _ => zo)) ?_)))))
          refine mv rfl (nP (nx (X := Int × OV) (i + 1, _) ?_ ?_ (hL := (by rw [hst]; (try rw [← List.append_assoc]); repeat first | exact sR | exact sN | apply sC | apply sS | apply sA))))
          · try dsimp only
            omega
          · try dsimp only
            omega
        · refine (buildSlice (E := eFault) Tryz.underlying119 ty168 z168 (.cons (.t rfl) .nil) rfl rfl (fun v6 => ?_))
          refine hdn (al1 4 rfl ((opv (Ev.ldv ty119 (.t rfl) SConfFaults.l_l) ?_)))
          refine hdn (al1 14 rfl ((app (E := eFault) Tryz.underlying119 ty168 zb168 zs168 (.t rfl) (.t rfl) (fun v7 => ?_) (hby := ⟨by (show _ ≤ 9223372036854775807); have := faultsUp_len (fun j0 : Nat => g (xs.getD j0 eMirrorConf.zero) j0) d i.toNat; simp only [List.length_append, List.length_cons, List.length_nil]; omega, by have := faultsUp_len (fun j0 : Nat => g (xs.getD j0 eMirrorConf.zero) j0) d i.toNat; simp only [List.length_append, List.length_cons, List.length_nil]; omega⟩))))
          refine hdn (tk 15 rfl (Ev.nilCheck (.t rfl)) ?_)
          refine tk 16 rfl (fA 0 (.t rfl)) ?_
          refine al1 17 rfl ((stv ty119 SConfFaults.l_l (.t rfl) (.t rfl) ?_))
          refine hdn (ovr (bN (pN (region (co (Ev.add_i (.t rfl) (.c (v := I 1) rfl) (fun _ => zo)) ?_)))))
          refine mv rfl (nP (nx (X := Int × OV) (i + 1, _) ?_ ?_ (hL := (by rw [hst]; (try rw [← List.append_assoc]); repeat first | exact sR | exact sN | apply sC | apply sS | apply sA))))
          · try dsimp only
            omega
          · try dsimp only
            omega
    · try simp only [Gx.nb] at h1
      have ei : ((i.toNat : Nat) : Int) = i := by omega
      have hst := faultsUp_ok (e := (fun j0 : Nat => g (xs.getD j0 eMirrorConf.zero) j0)) (d := d) hi.1 (by (try dsimp only); rw [ei]; exact h1)
      refine skip (bN (pN (region (co (Ev.add_i (.t rfl) (.c (v := I 1) rfl) (fun _ => zo)) ?_))))
      refine mv rfl (nP (nx (X := Int × OV) (i + 1, _) ?_ ?_ (hL := (by rw [hst]; (try rw [← List.append_assoc]); repeat first | exact sR | exact sN | apply sC | apply sS | apply sA))))
      · try dsimp only
        omega
      · try dsimp only
        omega
  · try simp only [Gx.nb] at h0
    refine exit (pX (pX (bX (pN (cut (X := OV) (fun x : OV => True) (fun x : OV => [dz, (0, true, .pointer (some ⟨b, 0, none⟩)), (1, true, u)]) (fun x : OV => [Var b eConfFaults ⟨x, d⟩ 210, OwnS x.v eFault (fs ++ listG (fun j0 : Nat => g (xs.getD j0 eMirrorConf.zero) j0) d xs.length most) 168]) ?_ (fun x hx => ?_))))))
    · refine sg ?_
      have him : i.toNat = m := by omega
      rw [him]
      refine mv rfl (co (Ev.len Tryz.underlying26 (.t rfl) (fun w I => hxs w I.keeps)) ?_)
      refine mv rfl (co (Ev.gtr_i (.t rfl) (.t rfl)) ?_)
      refine nP ?_
      first | refine condD rfl (fun h2 => ?_) (fun h2 => ?_) | refine cond rfl (fun h2 => ?_) (fun h2 => ?_)
      · try simp only [Gx.nb] at h2
        refine draw [] zk ?_
        refine tk 0 rfl (Ev.move (.t rfl)) ?_
        refine tk 1 rfl (Ev.move (.t rfl)) ?_
        refine tk 2 rfl (Ev.nilCheck (.t rfl)) ?_
        refine tk 3 rfl (fA 0 (.t rfl)) ?_
        refine tk 5 rfl (Ev.move (.t rfl)) ?_
        refine tk 6 rfl (Ev.nilCheck (.t rfl)) ?_
        refine tk 7 rfl (fA 1 (.t rfl)) ?_
        refine tk 9 rfl (Ev.move (.t rfl)) ?_
        refine all [4, 8] zk (by decide) (.cons rfl ?_ (.cons rfl ?_ .nil))
        · refine (opv (Ev.ldv ty119 (.t rfl) SConfFaults.l_l) ?_)
          refine hdn (al1 8 rfl ((opv (Ev.ldv ty3 (.t rfl) SConfFaults.l_at_) ?_)))
          refine hdn (tk 10 rfl (Ev.add_i (.t rfl) (.t rfl) (fun _ => by simp; omega)) ?_)
          refine tk 11 rfl (Ev.buildS (fs := _) (places := [(0, 1), (1, 1)]) z168 rfl Tryz.underlying168 zk (.cons (.c (v := I 4) rfl) (.cons (.t rfl) .nil)) (Fills.cons SFault.l_code rfl (Fills.cons SFault.l_at_ rfl Fills.nil))) ?_
          refine al1 12 rfl ((buildSlice (E := eFault) Tryz.underlying119 ty168 z168 (.cons (.t rfl) .nil) rfl rfl (fun v8 => ?_)))
          refine hdn (al1 13 rfl ((app (E := eFault) Tryz.underlying119 ty168 zb168 zs168 (.t rfl) (.t rfl) (fun v9 => ?_) (hby := ⟨by (show _ ≤ 9223372036854775807); have := faultsUp_len (fun j0 : Nat => g (xs.getD j0 eMirrorConf.zero) j0) d m; simp only [List.length_append, List.length_cons, List.length_nil]; omega, by have := faultsUp_len (fun j0 : Nat => g (xs.getD j0 eMirrorConf.zero) j0) d m; simp only [List.length_append, List.length_cons, List.length_nil]; omega⟩))))
          refine hdn (tk 14 rfl (Ev.nilCheck (.t rfl)) ?_)
          refine tk 15 rfl (fA 0 (.t rfl)) ?_
          refine al1 16 rfl ((stv ty119 SConfFaults.l_l (.t rfl) (.t rfl) ?_))
          refine hdn (ovr (pN (mt (X := OV) (_) trivial (hL := (by unfold listG; rw [← hm2]; (first | rw [if_pos (by omega), ← List.append_assoc] | rw [if_neg (by omega), List.append_nil]); repeat first | exact sR | exact sN | apply sC | apply sS | apply sA)))))
        · refine (opv (Ev.ldv ty3 (.t rfl) SConfFaults.l_at_) ?_)
          refine hdn (tk 10 rfl (Ev.add_i (.t rfl) (.t rfl) (fun _ => by simp; omega)) ?_)
          refine tk 11 rfl (Ev.buildS (fs := _) (places := [(0, 1), (1, 1)]) z168 rfl Tryz.underlying168 zk (.cons (.c (v := I 4) rfl) (.cons (.t rfl) .nil)) (Fills.cons SFault.l_code rfl (Fills.cons SFault.l_at_ rfl Fills.nil))) ?_
          refine all [4, 12] zk (by decide) (.cons rfl ?_ (.cons rfl ?_ .nil))
          · refine (opv (Ev.ldv ty119 (.t rfl) SConfFaults.l_l) ?_)
            refine hdn (al1 12 rfl ((buildSlice (E := eFault) Tryz.underlying119 ty168 z168 (.cons (.t rfl) .nil) rfl rfl (fun v10 => ?_))))
            refine hdn (al1 13 rfl ((app (E := eFault) Tryz.underlying119 ty168 zb168 zs168 (.t rfl) (.t rfl) (fun v11 => ?_) (hby := ⟨by (show _ ≤ 9223372036854775807); have := faultsUp_len (fun j0 : Nat => g (xs.getD j0 eMirrorConf.zero) j0) d m; simp only [List.length_append, List.length_cons, List.length_nil]; omega, by have := faultsUp_len (fun j0 : Nat => g (xs.getD j0 eMirrorConf.zero) j0) d m; simp only [List.length_append, List.length_cons, List.length_nil]; omega⟩))))
            refine hdn (tk 14 rfl (Ev.nilCheck (.t rfl)) ?_)
            refine tk 15 rfl (fA 0 (.t rfl)) ?_
            refine al1 16 rfl ((stv ty119 SConfFaults.l_l (.t rfl) (.t rfl) ?_))
            refine hdn (ovr (pN (mt (X := OV) (_) trivial (hL := (by unfold listG; rw [← hm2]; (first | rw [if_pos (by omega), ← List.append_assoc] | rw [if_neg (by omega), List.append_nil]); repeat first | exact sR | exact sN | apply sC | apply sS | apply sA)))))
          · refine (buildSlice (E := eFault) Tryz.underlying119 ty168 z168 (.cons (.t rfl) .nil) rfl rfl (fun v12 => ?_))
            refine hdn (al1 4 rfl ((opv (Ev.ldv ty119 (.t rfl) SConfFaults.l_l) ?_)))
            refine hdn (al1 13 rfl ((app (E := eFault) Tryz.underlying119 ty168 zb168 zs168 (.t rfl) (.t rfl) (fun v13 => ?_) (hby := ⟨by (show _ ≤ 9223372036854775807); have := faultsUp_len (fun j0 : Nat => g (xs.getD j0 eMirrorConf.zero) j0) d m; simp only [List.length_append, List.length_cons, List.length_nil]; omega, by have := faultsUp_len (fun j0 : Nat => g (xs.getD j0 eMirrorConf.zero) j0) d m; simp only [List.length_append, List.length_cons, List.length_nil]; omega⟩))))
            refine hdn (tk 14 rfl (Ev.nilCheck (.t rfl)) ?_)
            refine tk 15 rfl (fA 0 (.t rfl)) ?_
            refine al1 16 rfl ((stv ty119 SConfFaults.l_l (.t rfl) (.t rfl) ?_))
            refine hdn (ovr (pN (mt (X := OV) (_) trivial (hL := (by unfold listG; rw [← hm2]; (first | rw [if_pos (by omega), ← List.append_assoc] | rw [if_neg (by omega), List.append_nil]); repeat first | exact sR | exact sN | apply sC | apply sS | apply sA)))))
      · try simp only [Gx.nb] at h2
        refine skip (pN (mt (X := OV) (_) trivial (hL := (by unfold listG; rw [← hm2]; (first | rw [if_pos (by omega), ← List.append_assoc] | rw [if_neg (by omega), List.append_nil]); repeat first | exact sR | exact sN | apply sC | apply sS | apply sA))))
    obtain ⟨q2, rfl⟩ : ∃ y, y = x := ⟨x, rfl⟩
    show Sat _ _ [dz, (0, true, .pointer (some ⟨b, 0, none⟩)), (1, true, u)] [Var b eConfFaults ⟨q2, d⟩ 210, OwnS q2.v eFault (fs ++ listG (fun j0 : Nat => g (xs.getD j0 eMirrorConf.zero) j0) d xs.length most) 168]
    refine region (mv rfl (co (Ev.nilCheck (.t rfl)) ?_))
    refine co (fA 1 (.t rfl)) ?_
    refine co (Ev.ldv ty3 (.t rfl) SConfFaults.l_at_) ?_
    refine mv rfl (co (Ev.len Tryz.underlying26 (.t rfl) (fun w I => hxs w I.keeps)) ?_)
    refine co (Ev.add_i (.t rfl) (.t rfl) (fun _ => by simp; omega)) ?_
    refine co (Ev.nilCheck (.t rfl)) ?_
    refine co (fA 1 (.t rfl)) ?_
    refine cons (stv ty3 SConfFaults.l_at_ (.t rfl) (.t rfl) ?_)
    refine nil (done' rfl .nil (fun w I => ?_))
    exact retR (r' := fun o2 => FR b o2 (fs ++ listG (fun j0 : Nat => g (xs.getD j0 eMirrorConf.zero) j0) d xs.length most) (d + xs.length)) _ trivial rfl (List.mem_singleton_self _) w (WInv.sepIn (I.sub zs))
def defBad (d : Int) : Bool := !(decide (d = 1) || decide (d = 2) || decide (d = 4))
theorem defBad_eq (d : Int) : defBad d = (decide (¬ d = 1) && decide (¬ d = 2) && decide (¬ d = 4)) := by
  unfold defBad
  by_cases a : d = 1 <;> by_cases b : d = 2 <;> by_cases c : d = 4 <;> simp [a, b, c]
def thingsF (l : CL) : List SFault := ((((([] ++ listG (fun j0 : Nat => portE l.ps (l.ps.getD j0 iE.zero) j0) 0 l.ps.length 256) ++ listG (fun j0 : Nat => routeE l (l.rs.getD j0 eRoute.zero) j0) (0 + (l.ps.length : Int)) l.rs.length 1024) ++ listG (fun j0 : Nat => ruleE l (l.us.getD j0 eRule.zero) j0) ((0 + (l.ps.length : Int)) + (l.rs.length : Int)) l.us.length 256) ++ listG (fun j0 : Nat => meterE l (l.ms.getD j0 eMeterConf.zero) j0) (((0 + (l.ps.length : Int)) + (l.rs.length : Int)) + (l.us.length : Int)) l.ms.length 64) ++ listG (fun j0 : Nat => mirrorE l (l.xs.getD j0 eMirrorConf.zero) j0) ((((0 + (l.ps.length : Int)) + (l.rs.length : Int)) + (l.us.length : Int)) + (l.ms.length : Int)) l.xs.length 16)
def checkF (l : CL) (d : Int) : List SFault := thingsF l ++ (if defBad d = true then [⟨2, (((((0 + (l.ps.length : Int)) + (l.rs.length : Int)) + (l.us.length : Int)) + (l.ms.length : Int)) + (l.xs.length : Int))⟩] else [])
theorem listG_len (e : Nat → Int) (d : Int) (n most : Nat) : (listG e d n most).length ≤ most + 1 := by
  have := faultsUp_len e d (min n most)
  unfold listG
  rw [List.length_append]
  split <;> simp <;> omega
theorem thingsF_len (l : CL) : (thingsF l).length ≤ 1700 := by
  unfold thingsF
  simp only [List.length_append, List.length_nil]
  have h0 := listG_len (fun j0 : Nat => portE l.ps (l.ps.getD j0 iE.zero) j0) 0 l.ps.length 256
  have h1 := listG_len (fun j0 : Nat => routeE l (l.rs.getD j0 eRoute.zero) j0) (0 + (l.ps.length : Int)) l.rs.length 1024
  have h2 := listG_len (fun j0 : Nat => ruleE l (l.us.getD j0 eRule.zero) j0) ((0 + (l.ps.length : Int)) + (l.rs.length : Int)) l.us.length 256
  have h3 := listG_len (fun j0 : Nat => meterE l (l.ms.getD j0 eMeterConf.zero) j0) (((0 + (l.ps.length : Int)) + (l.rs.length : Int)) + (l.us.length : Int)) l.ms.length 64
  have h4 := listG_len (fun j0 : Nat => mirrorE l (l.xs.getD j0 eMirrorConf.zero) j0) ((((0 + (l.ps.length : Int)) + (l.rs.length : Int)) + (l.us.length : Int)) + (l.ms.length : Int)) l.xs.length 16
  omega
structure CL.Names (l : CL) : Prop where
  us : ∀ x ∈ l.us, x.name.size ≤ 9223372036854775807
  ms : ∀ x ∈ l.ms, x.name.size ≤ 9223372036854775807
  xs : ∀ x ∈ l.xs, x.name.size ≤ 9223372036854775807
def CL.n (l : CL) : Nat := l.ps.length + l.rs.length + l.us.length + l.ms.length + l.xs.length
theorem getD_in {α : Type} (l : List α) (i : Nat) (d : α) (h : i < l.length) : l.getD i d ∈ l := by simp [List.getD, h]
theorem en94 : Gx.Enters Tryz.prog 94 := Gx.Enters.mk' zk
theorem en96 : Gx.Enters Tryz.prog 96 := Gx.Enters.mk' zk
theorem en98 : Gx.Enters Tryz.prog 98 := Gx.Enters.mk' zk
theorem en100 : Gx.Enters Tryz.prog 100 := Gx.Enters.mk' zk
theorem en102 : Gx.Enters Tryz.prog 102 := Gx.Enters.mk' zk
theorem en92 : Gx.Enters Tryz.prog 92 := Gx.Enters.mk' zk
theorem z210 : (Tryz.prog.info? 210).bind (·.zero) = some (eConfFaults.val eConfFaults.zero) := by kernel_rfl
theorem en93 : Gx.Enters Tryz.prog 93 := Gx.Enters.mk' zk
theorem en95 : Gx.Enters Tryz.prog 95 := Gx.Enters.mk' zk
theorem en97 : Gx.Enters Tryz.prog 97 := Gx.Enters.mk' zk
theorem en99 : Gx.Enters Tryz.prog 99 := Gx.Enters.mk' zk
theorem en101 : Gx.Enters Tryz.prog 101 := Gx.Enters.mk' zk
set_option maxRecDepth 8000 in
theorem conf_check (c : SConf) (l : CL) (w : World) (hc : ConfAt w c l) (hn : l.Names) (hz : l.n ≤ 4611686018427387904) : Calls Tryz.prog 65 #[eConf.val c] w (RetO w eFault (checkF l c.default) 168) := by
  unfold CL.n at hz
  refine en0 69 Tryz.func65 ?_
  refine sg (cons (box (E := eConf) (.t rfl) (fun b1 => ?_)))
  refine co (Ev.assign (.c (v := (Go.Value.slice none 0 0)) rfl)) ?_
  refine nP (sg (co (Ev.ldv ty28 (.t rfl) (Lens.id _)) ?_))
  refine cons (calln (X := KB) (fun _ => True) (fun x => eConfKnown.val x.k) (fun x => x.R l) en92 (.cons (.t rfl) .nil) (fun w I => of_ok _ l w (hc.keep0 I.keeps)) (fun kb _ => ?_))
  refine cons (alloc z206 (fun b2 => ?_))
  refine cons (stv ty206 (Lens.id _) (.t rfl) (.t rfl) ?_)
  refine nP (sg (co (Ev.buildS (fs := _) (places := [(0, 1), (1, 1)]) z210 rfl Tryz.underlying210 zk .nil Fills.nil) ?_))
  refine cons (box (E := eConfFaults) (.t rfl) (fun b3 => ?_))
  refine asn rfl (nP (sg (takeNil eFault 168 ?_)))
  refine sepIn (r := Var b3 eConfFaults ⟨nilSl, 0⟩ 210) (s := OwnS nilSl.v eFault [] 168) (Rem.tail Rem.head) Rem.head ?_
  refine mv rfl (co (fA 0 (.t rfl)) ?_)
  refine co (Ev.ldv ty22 (.t rfl) SConf.l_ports) ?_
  refine co (Ev.makeFunc (f := 94) (.cons (.t rfl) .nil)) ?_
  refine cons (callr (X := OV) (r := FR b3 nilSl [] 0) (r' := fun o2 => FR b3 o2 (([] ++ listG (fun j0 : Nat => portE l.ps (l.ps.getD j0 iE.zero) j0) 0 l.ps.length 256)) (0 + (l.ps.length : Int))) (fun _ => True) (fun _ => .tuple #[]) (fun _ => Upd.head) List.mem_cons_self en93 (.cons (.t rfl) (.cons (.t rfl) (.cons (.c (v := I 256) rfl) (.cons (.t rfl) .nil)))) (fun w I => list_3 94 [] [.pointer (some ⟨b1, 0, none⟩)] (portE l.ps) (fun _ i => 0 ≤ i ∧ i < l.ps.length) b3 nilSl [] 0 _ l.ps 256 w en94 (at_mem List.mem_cons_self w I) (fun w1 k1 => hc.ps.keep0 (I.but Rem.head k1).keeps) (fun p i w1 h1 k1 => port1_ok c l.ps b1 p i w1 (by have I1 := I.but Rem.head k1; exact ptsVar (by repeat first | exact mH | apply mT | apply mA) (Lens.id _) w1 I1) (hc.ps.keep0 (I.but Rem.head k1).keeps) h1) (fun i hi => by constructor <;> omega) (by constructor <;> omega) (by simp only [List.length_append, List.length_nil]; omega)) (fun o1 _ => ?_))
  refine nP (sg (mv rfl (co (fA 1 (.t rfl)) ?_)))
  refine co (Ev.ldv ty23 (.t rfl) SConf.l_routes) ?_
  refine co (Ev.ldv ty206 (.t rfl) (Lens.id _)) ?_
  refine co (Ev.makeBound (f := 96) (.cons (.t rfl) .nil) .nil) ?_
  refine cons (callr (X := OV) (r := FR b3 o1 ([] ++ listG (fun j0 : Nat => portE l.ps (l.ps.getD j0 iE.zero) j0) 0 l.ps.length 256) (0 + (l.ps.length : Int))) (r' := fun o2 => FR b3 o2 ((([] ++ listG (fun j0 : Nat => portE l.ps (l.ps.getD j0 iE.zero) j0) 0 l.ps.length 256) ++ listG (fun j0 : Nat => routeE l (l.rs.getD j0 eRoute.zero) j0) (0 + (l.ps.length : Int)) l.rs.length 1024)) ((0 + (l.ps.length : Int)) + (l.rs.length : Int))) (fun _ => True) (fun _ => .tuple #[]) (fun _ => Upd.head) List.mem_cons_self en95 (.cons (.t rfl) (.cons (.t rfl) (.cons (.c (v := I 1024) rfl) (.cons (.t rfl) .nil)))) (fun w I => list_172 96 [eConfKnown.val kb.k] [] (routeE l) (fun _ _ => True) b3 o1 ([] ++ listG (fun j0 : Nat => portE l.ps (l.ps.getD j0 iE.zero) j0) 0 l.ps.length 256) (0 + (l.ps.length : Int)) _ l.rs 1024 w en96 (at_mem List.mem_cons_self w I) (fun w1 k1 => hc.rs.keep0 (I.but Rem.head k1).keeps) (fun x i w1 h1 k1 => route_ok kb l x i w1 (knownAt_own (fun r hr => by repeat first | exact List.mem_append_left _ hr | apply List.Mem.tail) w1 (I.but Rem.head k1))) (fun i hi => trivial) (by constructor <;> omega) (by have := listG_len (fun j0 : Nat => portE l.ps (l.ps.getD j0 iE.zero) j0) 0 l.ps.length 256; simp only [List.length_append, List.length_nil]; omega)) (fun o2 _ => ?_))
  refine nP (sg (mv rfl (co (fA 2 (.t rfl)) ?_)))
  refine co (Ev.ldv ty24 (.t rfl) SConf.l_rules) ?_
  refine co (Ev.ldv ty206 (.t rfl) (Lens.id _)) ?_
  refine co (Ev.makeBound (f := 98) (.cons (.t rfl) .nil) .nil) ?_
  refine cons (callr (X := OV) (r := FR b3 o2 (([] ++ listG (fun j0 : Nat => portE l.ps (l.ps.getD j0 iE.zero) j0) 0 l.ps.length 256) ++ listG (fun j0 : Nat => routeE l (l.rs.getD j0 eRoute.zero) j0) (0 + (l.ps.length : Int)) l.rs.length 1024) ((0 + (l.ps.length : Int)) + (l.rs.length : Int))) (r' := fun o2 => FR b3 o2 (((([] ++ listG (fun j0 : Nat => portE l.ps (l.ps.getD j0 iE.zero) j0) 0 l.ps.length 256) ++ listG (fun j0 : Nat => routeE l (l.rs.getD j0 eRoute.zero) j0) (0 + (l.ps.length : Int)) l.rs.length 1024) ++ listG (fun j0 : Nat => ruleE l (l.us.getD j0 eRule.zero) j0) ((0 + (l.ps.length : Int)) + (l.rs.length : Int)) l.us.length 256)) (((0 + (l.ps.length : Int)) + (l.rs.length : Int)) + (l.us.length : Int))) (fun _ => True) (fun _ => .tuple #[]) (fun _ => Upd.head) List.mem_cons_self en97 (.cons (.t rfl) (.cons (.t rfl) (.cons (.c (v := I 256) rfl) (.cons (.t rfl) .nil)))) (fun w I => list_113 98 [eConfKnown.val kb.k] [] (ruleE l) (fun x _ => x ∈ l.us) b3 o2 (([] ++ listG (fun j0 : Nat => portE l.ps (l.ps.getD j0 iE.zero) j0) 0 l.ps.length 256) ++ listG (fun j0 : Nat => routeE l (l.rs.getD j0 eRoute.zero) j0) (0 + (l.ps.length : Int)) l.rs.length 1024) ((0 + (l.ps.length : Int)) + (l.rs.length : Int)) _ l.us 256 w en98 (at_mem List.mem_cons_self w I) (fun w1 k1 => hc.us.keep0 (I.but Rem.head k1).keeps) (fun x i w1 h1 k1 => rule_ok kb l x i w1 (knownAt_own (fun r hr => by repeat first | exact List.mem_append_left _ hr | apply List.Mem.tail) w1 (I.but Rem.head k1)) (hn.us x h1)) (fun i hi => getD_in _ _ _ hi) (by constructor <;> omega) (by have := listG_len (fun j0 : Nat => portE l.ps (l.ps.getD j0 iE.zero) j0) 0 l.ps.length 256; have := listG_len (fun j0 : Nat => routeE l (l.rs.getD j0 eRoute.zero) j0) (0 + (l.ps.length : Int)) l.rs.length 1024; simp only [List.length_append, List.length_nil]; omega)) (fun o3 _ => ?_))
  refine nP (sg (mv rfl (co (fA 3 (.t rfl)) ?_)))
  refine co (Ev.ldv ty25 (.t rfl) SConf.l_meters) ?_
  refine co (Ev.ldv ty206 (.t rfl) (Lens.id _)) ?_
  refine co (Ev.makeBound (f := 100) (.cons (.t rfl) .nil) .nil) ?_
  refine cons (callr (X := OV) (r := FR b3 o3 ((([] ++ listG (fun j0 : Nat => portE l.ps (l.ps.getD j0 iE.zero) j0) 0 l.ps.length 256) ++ listG (fun j0 : Nat => routeE l (l.rs.getD j0 eRoute.zero) j0) (0 + (l.ps.length : Int)) l.rs.length 1024) ++ listG (fun j0 : Nat => ruleE l (l.us.getD j0 eRule.zero) j0) ((0 + (l.ps.length : Int)) + (l.rs.length : Int)) l.us.length 256) (((0 + (l.ps.length : Int)) + (l.rs.length : Int)) + (l.us.length : Int))) (r' := fun o2 => FR b3 o2 ((((([] ++ listG (fun j0 : Nat => portE l.ps (l.ps.getD j0 iE.zero) j0) 0 l.ps.length 256) ++ listG (fun j0 : Nat => routeE l (l.rs.getD j0 eRoute.zero) j0) (0 + (l.ps.length : Int)) l.rs.length 1024) ++ listG (fun j0 : Nat => ruleE l (l.us.getD j0 eRule.zero) j0) ((0 + (l.ps.length : Int)) + (l.rs.length : Int)) l.us.length 256) ++ listG (fun j0 : Nat => meterE l (l.ms.getD j0 eMeterConf.zero) j0) (((0 + (l.ps.length : Int)) + (l.rs.length : Int)) + (l.us.length : Int)) l.ms.length 64)) ((((0 + (l.ps.length : Int)) + (l.rs.length : Int)) + (l.us.length : Int)) + (l.ms.length : Int))) (fun _ => True) (fun _ => .tuple #[]) (fun _ => Upd.head) List.mem_cons_self en99 (.cons (.t rfl) (.cons (.t rfl) (.cons (.c (v := I 64) rfl) (.cons (.t rfl) .nil)))) (fun w I => list_134 100 [eConfKnown.val kb.k] [] (meterE l) (fun x _ => x ∈ l.ms) b3 o3 ((([] ++ listG (fun j0 : Nat => portE l.ps (l.ps.getD j0 iE.zero) j0) 0 l.ps.length 256) ++ listG (fun j0 : Nat => routeE l (l.rs.getD j0 eRoute.zero) j0) (0 + (l.ps.length : Int)) l.rs.length 1024) ++ listG (fun j0 : Nat => ruleE l (l.us.getD j0 eRule.zero) j0) ((0 + (l.ps.length : Int)) + (l.rs.length : Int)) l.us.length 256) (((0 + (l.ps.length : Int)) + (l.rs.length : Int)) + (l.us.length : Int)) _ l.ms 64 w en100 (at_mem List.mem_cons_self w I) (fun w1 k1 => hc.ms.keep0 (I.but Rem.head k1).keeps) (fun x i w1 h1 k1 => meter_ok kb l x i w1 (knownAt_own (fun r hr => by repeat first | exact List.mem_append_left _ hr | apply List.Mem.tail) w1 (I.but Rem.head k1)) (hn.ms x h1)) (fun i hi => getD_in _ _ _ hi) (by constructor <;> omega) (by have := listG_len (fun j0 : Nat => portE l.ps (l.ps.getD j0 iE.zero) j0) 0 l.ps.length 256; have := listG_len (fun j0 : Nat => routeE l (l.rs.getD j0 eRoute.zero) j0) (0 + (l.ps.length : Int)) l.rs.length 1024; have := listG_len (fun j0 : Nat => ruleE l (l.us.getD j0 eRule.zero) j0) ((0 + (l.ps.length : Int)) + (l.rs.length : Int)) l.us.length 256; simp only [List.length_append, List.length_nil]; omega)) (fun o4 _ => ?_))
  refine nP (sg (mv rfl (co (fA 4 (.t rfl)) ?_)))
  refine co (Ev.ldv ty26 (.t rfl) SConf.l_mirrors) ?_
  refine co (Ev.ldv ty206 (.t rfl) (Lens.id _)) ?_
  refine co (Ev.makeBound (f := 102) (.cons (.t rfl) .nil) .nil) ?_
  refine cons (callr (X := OV) (r := FR b3 o4 (((([] ++ listG (fun j0 : Nat => portE l.ps (l.ps.getD j0 iE.zero) j0) 0 l.ps.length 256) ++ listG (fun j0 : Nat => routeE l (l.rs.getD j0 eRoute.zero) j0) (0 + (l.ps.length : Int)) l.rs.length 1024) ++ listG (fun j0 : Nat => ruleE l (l.us.getD j0 eRule.zero) j0) ((0 + (l.ps.length : Int)) + (l.rs.length : Int)) l.us.length 256) ++ listG (fun j0 : Nat => meterE l (l.ms.getD j0 eMeterConf.zero) j0) (((0 + (l.ps.length : Int)) + (l.rs.length : Int)) + (l.us.length : Int)) l.ms.length 64) ((((0 + (l.ps.length : Int)) + (l.rs.length : Int)) + (l.us.length : Int)) + (l.ms.length : Int))) (r' := fun o2 => FR b3 o2 (((((([] ++ listG (fun j0 : Nat => portE l.ps (l.ps.getD j0 iE.zero) j0) 0 l.ps.length 256) ++ listG (fun j0 : Nat => routeE l (l.rs.getD j0 eRoute.zero) j0) (0 + (l.ps.length : Int)) l.rs.length 1024) ++ listG (fun j0 : Nat => ruleE l (l.us.getD j0 eRule.zero) j0) ((0 + (l.ps.length : Int)) + (l.rs.length : Int)) l.us.length 256) ++ listG (fun j0 : Nat => meterE l (l.ms.getD j0 eMeterConf.zero) j0) (((0 + (l.ps.length : Int)) + (l.rs.length : Int)) + (l.us.length : Int)) l.ms.length 64) ++ listG (fun j0 : Nat => mirrorE l (l.xs.getD j0 eMirrorConf.zero) j0) ((((0 + (l.ps.length : Int)) + (l.rs.length : Int)) + (l.us.length : Int)) + (l.ms.length : Int)) l.xs.length 16)) (((((0 + (l.ps.length : Int)) + (l.rs.length : Int)) + (l.us.length : Int)) + (l.ms.length : Int)) + (l.xs.length : Int))) (fun _ => True) (fun _ => .tuple #[]) (fun _ => Upd.head) List.mem_cons_self en101 (.cons (.t rfl) (.cons (.t rfl) (.cons (.c (v := I 16) rfl) (.cons (.t rfl) .nil)))) (fun w I => list_136 102 [eConfKnown.val kb.k] [] (mirrorE l) (fun x _ => x ∈ l.xs) b3 o4 (((([] ++ listG (fun j0 : Nat => portE l.ps (l.ps.getD j0 iE.zero) j0) 0 l.ps.length 256) ++ listG (fun j0 : Nat => routeE l (l.rs.getD j0 eRoute.zero) j0) (0 + (l.ps.length : Int)) l.rs.length 1024) ++ listG (fun j0 : Nat => ruleE l (l.us.getD j0 eRule.zero) j0) ((0 + (l.ps.length : Int)) + (l.rs.length : Int)) l.us.length 256) ++ listG (fun j0 : Nat => meterE l (l.ms.getD j0 eMeterConf.zero) j0) (((0 + (l.ps.length : Int)) + (l.rs.length : Int)) + (l.us.length : Int)) l.ms.length 64) ((((0 + (l.ps.length : Int)) + (l.rs.length : Int)) + (l.us.length : Int)) + (l.ms.length : Int)) _ l.xs 16 w en102 (at_mem List.mem_cons_self w I) (fun w1 k1 => hc.xs.keep0 (I.but Rem.head k1).keeps) (fun x i w1 h1 k1 => mirror_ok kb l x i w1 (knownAt_own (fun r hr => by repeat first | exact List.mem_append_left _ hr | apply List.Mem.tail) w1 (I.but Rem.head k1)) (hn.xs x h1)) (fun i hi => getD_in _ _ _ hi) (by constructor <;> omega) (by have := listG_len (fun j0 : Nat => portE l.ps (l.ps.getD j0 iE.zero) j0) 0 l.ps.length 256; have := listG_len (fun j0 : Nat => routeE l (l.rs.getD j0 eRoute.zero) j0) (0 + (l.ps.length : Int)) l.rs.length 1024; have := listG_len (fun j0 : Nat => ruleE l (l.us.getD j0 eRule.zero) j0) ((0 + (l.ps.length : Int)) + (l.rs.length : Int)) l.us.length 256; have := listG_len (fun j0 : Nat => meterE l (l.ms.getD j0 eMeterConf.zero) j0) (((0 + (l.ps.length : Int)) + (l.rs.length : Int)) + (l.us.length : Int)) l.ms.length 64; simp only [List.length_append, List.length_nil]; omega)) (fun o5 _ => ?_))
  refine nP (cut (X := OV) (fun x : OV => True) (fun x : OV => [dz, (4, true, .pointer (some ⟨b3, 0, none⟩))]) (fun x : OV => [Var b3 eConfFaults ⟨x, (((((0 + (l.ps.length : Int)) + (l.rs.length : Int)) + (l.us.length : Int)) + (l.ms.length : Int)) + (l.xs.length : Int))⟩ 210, OwnS x.v eFault (checkF l c.default) 168]) ?_ (fun x hx => ?_))
  · refine sg (sepOut Rem.head ?_)
    refine co (fA 5 (.t rfl)) ?_
    refine co (Ev.ldv ty3 (.t rfl) SConf.l_default) ?_
    refine co (Ev.neq_i (.t rfl) (.c (v := I 1) rfl)) ?_
    refine mv rfl (cg rfl rfl (fA 5 (.t rfl)) ?_)
    refine cg rfl rfl (Ev.ldv ty3 (.g rfl id) SConf.l_default) ?_
    refine cg rfl rfl (Ev.neq_i (.g rfl id) (.c (v := I 2) rfl)) ?_
    refine co (Ev.pkA (.t rfl) rfl) ?_
    refine mv rfl (cg rfl rfl (fA 5 (.t rfl)) ?_)
    refine cg rfl rfl (Ev.ldv ty3 (.g rfl id) SConf.l_default) ?_
    refine cg rfl rfl (Ev.neq_i (.g rfl id) (.c (v := I 4) rfl)) ?_
    refine co (Ev.pkA (.t rfl) rfl) ?_
    refine nP ?_
    first | refine condD rfl (fun h0 => ?_) (fun h0 => ?_) | refine cond rfl (fun h0 => ?_) (fun h0 => ?_)
    · have hdb : defBad c.default = true := (defBad_eq _).trans h0
      refine draw [] zk ?_
      refine tk 0 rfl (Ev.move (.t rfl)) ?_
      refine tk 1 rfl (Ev.move (.t rfl)) ?_
      refine tk 2 rfl (Ev.nilCheck (.t rfl)) ?_
      refine tk 3 rfl (fA 0 (.t rfl)) ?_
      refine tk 5 rfl (Ev.move (.t rfl)) ?_
      refine tk 6 rfl (Ev.nilCheck (.t rfl)) ?_
      refine tk 7 rfl (fA 1 (.t rfl)) ?_
      refine all [4, 8] zk (by decide) (.cons rfl ?_ (.cons rfl ?_ .nil))
      · refine (opv (Ev.ldv ty119 (.t rfl) SConfFaults.l_l) ?_)
        refine hdn (al1 8 rfl ((opv (Ev.ldv ty3 (.t rfl) SConfFaults.l_at_) ?_)))
        refine hdn (tk 9 rfl (Ev.buildS (fs := _) (places := [(0, 1), (1, 1)]) z168 rfl Tryz.underlying168 zk (.cons (.c (v := I 2) rfl) (.cons (.t rfl) .nil)) (Fills.cons SFault.l_code rfl (Fills.cons SFault.l_at_ rfl Fills.nil))) ?_)
        refine al1 10 rfl ((buildSlice (E := eFault) Tryz.underlying119 ty168 z168 (.cons (.t rfl) .nil) rfl rfl (fun v4 => ?_)))
        refine hdn (al1 11 rfl ((app (E := eFault) Tryz.underlying119 ty168 zb168 zs168 (.t rfl) (.t rfl) (fun v5 => ?_) (hby := ⟨by (show _ ≤ 9223372036854775807); have := thingsF_len l; simp only [List.length_cons, List.length_nil]; unfold thingsF at this; omega, by have := thingsF_len l; simp only [List.length_cons, List.length_nil]; unfold thingsF at this; omega⟩))))
        refine hdn (tk 12 rfl (Ev.nilCheck (.t rfl)) ?_)
        refine tk 13 rfl (fA 0 (.t rfl)) ?_
        refine al1 14 rfl ((stv ty119 SConfFaults.l_l (.t rfl) (.t rfl) ?_))
        refine hdn (ovr (pN (mt (X := OV) (_) trivial (hL := (by unfold checkF; (first | rw [if_pos hdb] | rw [if_neg hdb, List.append_nil]); repeat first | exact sR | exact sN | apply sC | apply sS | apply sA)))))
      · refine (opv (Ev.ldv ty3 (.t rfl) SConfFaults.l_at_) ?_)
        refine hdn (tk 9 rfl (Ev.buildS (fs := _) (places := [(0, 1), (1, 1)]) z168 rfl Tryz.underlying168 zk (.cons (.c (v := I 2) rfl) (.cons (.t rfl) .nil)) (Fills.cons SFault.l_code rfl (Fills.cons SFault.l_at_ rfl Fills.nil))) ?_)
        refine all [4, 10] zk (by decide) (.cons rfl ?_ (.cons rfl ?_ .nil))
        · refine (opv (Ev.ldv ty119 (.t rfl) SConfFaults.l_l) ?_)
          refine hdn (al1 10 rfl ((buildSlice (E := eFault) Tryz.underlying119 ty168 z168 (.cons (.t rfl) .nil) rfl rfl (fun v6 => ?_))))
          refine hdn (al1 11 rfl ((app (E := eFault) Tryz.underlying119 ty168 zb168 zs168 (.t rfl) (.t rfl) (fun v7 => ?_) (hby := ⟨by (show _ ≤ 9223372036854775807); have := thingsF_len l; simp only [List.length_cons, List.length_nil]; unfold thingsF at this; omega, by have := thingsF_len l; simp only [List.length_cons, List.length_nil]; unfold thingsF at this; omega⟩))))
          refine hdn (tk 12 rfl (Ev.nilCheck (.t rfl)) ?_)
          refine tk 13 rfl (fA 0 (.t rfl)) ?_
          refine al1 14 rfl ((stv ty119 SConfFaults.l_l (.t rfl) (.t rfl) ?_))
          refine hdn (ovr (pN (mt (X := OV) (_) trivial (hL := (by unfold checkF; (first | rw [if_pos hdb] | rw [if_neg hdb, List.append_nil]); repeat first | exact sR | exact sN | apply sC | apply sS | apply sA)))))
        · refine (buildSlice (E := eFault) Tryz.underlying119 ty168 z168 (.cons (.t rfl) .nil) rfl rfl (fun v8 => ?_))
          refine hdn (al1 4 rfl ((opv (Ev.ldv ty119 (.t rfl) SConfFaults.l_l) ?_)))
          refine hdn (al1 11 rfl ((app (E := eFault) Tryz.underlying119 ty168 zb168 zs168 (.t rfl) (.t rfl) (fun v9 => ?_) (hby := ⟨by (show _ ≤ 9223372036854775807); have := thingsF_len l; simp only [List.length_cons, List.length_nil]; unfold thingsF at this; omega, by have := thingsF_len l; simp only [List.length_cons, List.length_nil]; unfold thingsF at this; omega⟩))))
          refine hdn (tk 12 rfl (Ev.nilCheck (.t rfl)) ?_)
          refine tk 13 rfl (fA 0 (.t rfl)) ?_
          refine al1 14 rfl ((stv ty119 SConfFaults.l_l (.t rfl) (.t rfl) ?_))
          refine hdn (ovr (pN (mt (X := OV) (_) trivial (hL := (by unfold checkF; (first | rw [if_pos hdb] | rw [if_neg hdb, List.append_nil]); repeat first | exact sR | exact sN | apply sC | apply sS | apply sA)))))
    · have hdb : ¬ defBad c.default = true := by rw [show defBad c.default = false from (defBad_eq _).trans h0]; exact Bool.false_ne_true
      refine skip (pN (mt (X := OV) (_) trivial (hL := (by unfold checkF; (first | rw [if_pos hdb] | rw [if_neg hdb, List.append_nil]); repeat first | exact sR | exact sN | apply sC | apply sS | apply sA))))
  obtain ⟨q, rfl⟩ : ∃ y, y = x := ⟨x, rfl⟩
  show Sat _ _ [dz, (4, true, .pointer (some ⟨b3, 0, none⟩))] [Var b3 eConfFaults ⟨q, (((((0 + (l.ps.length : Int)) + (l.rs.length : Int)) + (l.us.length : Int)) + (l.ms.length : Int)) + (l.xs.length : Int))⟩ 210, OwnS q.v eFault (checkF l c.default) 168]
  refine sg (mv rfl (co (Ev.nilCheck (.t rfl)) ?_))
  refine co (fA 0 (.t rfl)) ?_
  refine co (Ev.ldv ty119 (.t rfl) SConfFaults.l_l) ?_
  refine asn rfl (nP (ret (done rfl (.tmp rfl .nil) (retOE zm ?_))))
  rfl
def mayB (l : CL) (d : Int) : Bool := decide (checkF l d = [])
theorem en65 : Gx.Enters Tryz.prog 65 := Gx.Enters.mk' zk
theorem may_ok (c : SConf) (l : CL) (w : World) (hc : ConfAt w c l) (hn : l.Names) (hz : l.n ≤ 4611686018427387904) : Calls Tryz.prog 41 #[eConf.val c] w (RetV w (.bool (mayB l c.default))) := by
  refine en0 7 Tryz.func41 ?_
  refine sg (cons (box (E := eConf) (.t rfl) (fun b1 => ?_)))
  refine co (Ev.assign (.c (v := .bool false) rfl)) ?_
  refine nP (sg (co (Ev.ldx c ty28 (.t rfl) (Lens.id _)) ?_))
  refine cons (callo en65 (.cons (.t rfl) .nil) (fun w I => conf_check c l w (hc.keep0 I.keeps) hn hz) (fun v2 => ?_))
  refine co (Ev.len Tryz.underlying119 (.t rfl) zf) ?_
  refine co (Ev.eql_i (.t rfl) (.c (v := I 0) rfl)) ?_
  refine asn rfl (nP (ret (done rfl (.tmp rfl .nil) (retE ?_))))
  unfold mayB
  refine congrArg Value.bool ?_
  rw [Bool.eq_iff_iff, decide_eq_true_iff, decide_eq_true_iff, ← List.length_eq_zero_iff]
  omega
theorem listG_nil {e : Nat → Int} {d : Int} {n most : Nat} (h : listG e d n most = []) : n ≤ most := by
  unfold listG at h
  have h2 := (List.append_eq_nil_iff.1 h).2
  by_cases hm : most < n
  · rw [if_pos hm] at h2; cases h2
  · omega
theorem may_lens {l : CL} {d : Int} (h : mayB l d = true) : l.ps.length ≤ 256 ∧ l.rs.length ≤ 1024 ∧ l.us.length ≤ 256 ∧ l.ms.length ≤ 64 ∧ l.xs.length ≤ 16 := by
  unfold mayB checkF thingsF at h
  have h := (List.append_eq_nil_iff.1 (of_decide_eq_true h)).1
  have e5 := List.append_eq_nil_iff.1 h
  have e4 := List.append_eq_nil_iff.1 e5.1
  have e3 := List.append_eq_nil_iff.1 e4.1
  have e2 := List.append_eq_nil_iff.1 e3.1
  have e1 := List.append_eq_nil_iff.1 e2.1
  exact ⟨listG_nil e1.2, listG_nil e2.2, listG_nil e3.2, listG_nil e4.2, listG_nil e5.2⟩
theorem faultsUp_nil {e : Nat → Int} {d : Int} : ∀ {n : Nat}, faultsUp e d n = [] → ∀ i, i < n → e i = 0
  | 0, _, i, hi => absurd hi (Nat.not_lt_zero _)
  | n + 1, h, i, hi => by
    unfold faultsUp at h
    obtain ⟨h1, h2⟩ := List.append_eq_nil_iff.1 h
    by_cases hin : i < n
    · exact faultsUp_nil h1 i hin
    · obtain rfl : i = n := by omega
      by_cases he : e i = 0
      · exact he
      · rw [if_neg he] at h2
        cases h2
theorem listG_ok {e : Nat → Int} {d : Int} {n most : Nat} (h : listG e d n most = []) : ∀ i, i < n → e i = 0 := by
  have hm := listG_nil h
  unfold listG at h
  rw [Nat.min_eq_left hm] at h
  exact faultsUp_nil (List.append_eq_nil_iff.1 h).1
structure CL.Good (l : CL) (d : Int) : Prop where
  ps : ∀ i, i < l.ps.length → portE l.ps (l.ps.getD i iE.zero) i = 0
  rs : ∀ i, i < l.rs.length → routeE l (l.rs.getD i eRoute.zero) i = 0
  us : ∀ i, i < l.us.length → ruleE l (l.us.getD i eRule.zero) i = 0
  ms : ∀ i, i < l.ms.length → meterE l (l.ms.getD i eMeterConf.zero) i = 0
  xs : ∀ i, i < l.xs.length → mirrorE l (l.xs.getD i eMirrorConf.zero) i = 0
  d : defBad d = false
theorem may_good {l : CL} {d : Int} (h : mayB l d = true) : l.Good d := by
  unfold mayB checkF thingsF at h
  have h0 := List.append_eq_nil_iff.1 (of_decide_eq_true h)
  have e5 := List.append_eq_nil_iff.1 h0.1
  have e4 := List.append_eq_nil_iff.1 e5.1
  have e3 := List.append_eq_nil_iff.1 e4.1
  have e2 := List.append_eq_nil_iff.1 e3.1
  have e1 := List.append_eq_nil_iff.1 e2.1
  refine ⟨listG_ok e1.2, listG_ok e2.2, listG_ok e3.2, listG_ok e4.2, listG_ok e5.2, ?_⟩
  cases hd : defBad d with
  | false => rfl
  | true => rw [hd, if_pos rfl] at h0; exact absurd h0.2 (by simp)
theorem find_first {α κ : Type} {q : κ → κ → Bool} (hi : ∀ x y, q x y = true ↔ x = y) (f : α → κ) (l : List α) (k : κ) : ∀ n, n ≤ l.length → findV q k (firstN q f l n) = ((l.take n).findIdx? (fun x => q (f x) k)).map (fun i : Nat => (i : Int))
  | 0, _ => by simp [firstN, findV, findL]
  | n + 1, h => by
    have hlt : n < l.length := by omega
    have ih := find_first hi f l k n (by omega)
    have ihx := find_first hi f l (f l[n]) n (by omega)
    have e : l[n]? = some l[n] := List.getElem?_eq_getElem hlt
    have hlen : (l.take n).length = n := by simp; omega
    rw [firstN, e, List.take_succ_eq_append_getElem hlt, List.findIdx?_append]
    simp only
    cases hs : (findV q (f l[n]) (firstN q f l n)).isSome with
    | true =>
      rw [if_pos rfl, ih]
      cases hk : (l.take n).findIdx? (fun x => q (f x) k) with
      | some i => simp
      | none =>
        have hq : q (f l[n]) k = false := by
          rw [Bool.eq_false_iff]
          intro hq
          have e2 := (hi _ _).1 hq
          subst e2
          rw [ihx, hk] at hs
          cases hs
        simp [List.findIdx?_cons, hq]
    | false =>
      rw [if_neg Bool.false_ne_true, findV_put hi]
      have hn : (l.take n).findIdx? (fun x => q (f x) (f l[n])) = none := by
        rw [ihx] at hs
        cases h2 : (l.take n).findIdx? (fun x => q (f x) (f l[n])) with
        | none => rfl
        | some i => rw [h2] at hs; cases hs
      by_cases hq : q k (f l[n]) = true
      · have e2 := (hi _ _).1 hq
        subst e2
        rw [if_pos hq, hn]
        simp [List.findIdx?_cons, hq, hlen]
      · rw [if_neg hq, ih]
        have hq2 : q (f l[n]) k = false := by
          rw [Bool.eq_false_iff]
          intro h2
          exact hq ((hi _ _).2 ((hi _ _).1 h2).symm)
        cases hk : (l.take n).findIdx? (fun x => q (f x) k) <;> simp [List.findIdx?_cons, hq2]
theorem find_all {α κ : Type} {q : κ → κ → Bool} (hi : ∀ x y, q x y = true ↔ x = y) (f : α → κ) (l : List α) (k : κ) : findV q k (firstN q f l l.length) = (l.findIdx? (fun x => q (f x) k)).map (fun i : Nat => (i : Int)) := by
  rw [find_first hi f l k _ (Nat.le_refl _), List.take_length]
theorem find_idx {α κ : Type} {q : κ → κ → Bool} (hi : ∀ x y, q x y = true ↔ x = y) (f : α → κ) (l : List α) (k : κ) : (findV q k (firstN q f l l.length)).isSome = decide (¬ idxF (fun x => q (f x) k) l < 0) := by
  rw [find_all hi]
  unfold idxF
  cases l.findIdx? (fun x => q (f x) k) with
  | none => rfl
  | some i => simp
theorem find_at {α κ : Type} {q : κ → κ → Bool} (hi : ∀ x y, q x y = true ↔ x = y) (f : α → κ) (l : List α) (z : α) (i : Nat) (h : i < l.length) : (findV q (f (l.getD i z)) (firstN q f l l.length)).getD 0 = idxF (fun x => q (f x) (f (l.getD i z))) l := by
  rw [find_all hi]
  unfold idxF
  cases hk : l.findIdx? (fun x => q (f x) (f (l.getD i z))) with
  | some j => rfl
  | none =>
    have := List.findIdx?_eq_none_iff.1 hk (l.getD i z) (getD_in _ _ _ h)
    rw [(hi _ _).2 rfl] at this
    cases this
theorem portB_iff (l : CL) (p : Int) : portB l p = true ↔ p ∈ l.ps := by
  unfold portB portsM
  rw [find_all eqd_iff, Option.isSome_map, ← Option.ne_none_iff_isSome, Ne, List.findIdx?_eq_none_iff]
  constructor
  · intro h
    refine Decidable.byContradiction fun hn => h fun x hx => ?_
    rw [Bool.eq_false_iff]
    intro hq
    exact hn (((eqd_iff _ _).1 hq) ▸ hx)
  · intro h hn
    have := hn p h
    rw [(eqd_iff _ _).2 rfl] at this
    cases this
theorem eqs_dec (x y : ByteArray) : eqs x y = decide (x = y) := by
  rw [Bool.eq_iff_iff, decide_eq_true_iff]
  exact eqs_iff x y
abbrev KeyE {κ : Type} (e : κ → κ → Bool) : Prop := ∀ a b, e a b = true ↔ a = b
theorem idxF_le {α : Type} {p : α → Bool} {l : List α} {i : Nat} (h : i < l.length) (hp : p l[i] = true) : 0 ≤ idxF p l ∧ idxF p l ≤ i := by
  unfold idxF
  cases e : l.findIdx? p with
  | none =>
    have := List.findIdx?_eq_none_iff.1 e l[i] (List.getElem_mem h)
    rw [hp] at this
    cases this
  | some m =>
    obtain ⟨h1, h2, h3⟩ := List.findIdx?_eq_some_iff_getElem.1 e
    simp only
    rcases Nat.lt_or_ge i m with h4 | h4
    · exact absurd hp (h3 i h4)
    · omega
theorem nodup_first {α κ : Type} {q : κ → κ → Bool} (hi : KeyE q) {f : α → κ} {l : List α} (z : α) (h : ∀ i, i < l.length → ¬ (findV q (f (l.getD i z)) (firstN q f l l.length)).getD 0 < (i : Int)) : (l.map f).Nodup := by
  refine List.pairwise_iff_getElem.2 fun i j h1 h2 hij e => ?_
  have h1' : i < l.length := by simpa using h1
  have h2' : j < l.length := by simpa using h2
  have hj := h j h2'
  rw [find_at hi f l z j h2'] at hj
  have e2 : l.getD j z = l[j] := by simp [List.getD, h2']
  rw [e2] at hj
  have := (idxF_le (p := fun x => q (f x) (f l[j])) h1' ((hi _ _).2 (by simpa using e))).2
  omega
theorem routeE_z {l : CL} {r : SRoute} {i : Int} : routeE l r i = 0 ↔ checkP r.to_ = 0 ∧ portB l r.out = true ∧ ¬ (findV SPrefix.eqb r.to_ (routesM l)).getD 0 < i := by
  unfold routeE
  split
  · rename_i h; simp [h]
  · split
    · rename_i h; simp [h]
    · split
      · rename_i h; simp [h]
      · rename_i h1 h2 h3
        simp only [ne_eq, Decidable.not_not] at h1
        simp [h1, h3]
        simpa using h2
theorem meterE_z {l : CL} {r : SMeterConf} {i : Int} : meterE l r i = 0 ↔ nameB r.name = true ∧ ckB r.bucket = 0 ∧ ¬ (findV eqs r.name (metersM l)).getD 0 < i := by
  unfold meterE
  split
  · rename_i h; simp [h]
  · split
    · rename_i h1 h2
      constructor
      · intro h
        cases h
      · intro hh
        rcases h2 with h | h
        · exact absurd h hh.2.2
        · exact absurd hh.2.1 h
    · rename_i h1 h2
      simp only [not_or, ne_eq, Decidable.not_not] at h2
      exact ⟨fun _ => ⟨by simpa using h1, h2.2, h2.1⟩, fun _ => rfl⟩
theorem mirrorE_z {l : CL} {r : SMirrorConf} {i : Int} : mirrorE l r i = 0 ↔ nameB r.name = true ∧ portB l r.out = true ∧ roomB r.room = true ∧ ¬ (findV eqs r.name (mirrorsM l)).getD 0 < i := by
  unfold mirrorE
  split
  · rename_i h; simp [h]
  · split
    · rename_i h; simp [h]
    · split
      · rename_i h; simp [h]
      · split
        · rename_i h; simp [h]
        · rename_i h1 h2 h3 h4
          exact ⟨fun _ => ⟨by simpa using h1, by simpa using h3, by simpa using h4, h2⟩, fun _ => rfl⟩
theorem good_rs {l : CL} {d : Int} (h : l.Good d) : (l.rs.map (·.to_)).Nodup := nodup_first SPrefix.eqb_iff eRoute.zero fun i hi => (routeE_z.1 (h.rs i hi)).2.2
theorem good_ms {l : CL} {d : Int} (h : l.Good d) : (l.ms.map (·.name)).Nodup := nodup_first eqs_iff eMeterConf.zero fun i hi => (meterE_z.1 (h.ms i hi)).2.2
theorem good_xs {l : CL} {d : Int} (h : l.Good d) : (l.xs.map (·.name)).Nodup := nodup_first eqs_iff eMirrorConf.zero fun i hi => (mirrorE_z.1 (h.xs i hi)).2.2.2
def qM (k : Nat) (m : SMatch) (n : Int) (h : SHeader) : Bool := match k with
  | 0 => withinB m.in_ n
  | 1 => decide (h.proto = m.proto)
  | 2 => hasP m.src h.src
  | 3 => hasP m.dst h.dst
  | 4 => withinB m.srcPort h.srcPort.toNat
  | _ => withinB m.dstPort h.dstPort.toNat
def fM (k : Nat) : Nat := ([109, 111, 112, 114, 115, 116] : List Nat).getD k 0
def ksA (c : Bool) (k : Nat) (l : List Nat) : List Nat := bif c then l ++ [k] else l
def ks (m : SMatch) : List Nat := ksA (asksB m 32) 5 (ksA (asksB m 16) 4 (ksA (asksB m 4) 3 (ksA (asksB m 2) 2 (ksA (asksB m 8) 1 (ksA (asksB m 1) 0 [])))))
def closL (p : Nat) (l : List Nat) : List OV := l.map fun k => clo (fM k) [.pointer (some ⟨p, 0, none⟩)]
def clos (m : SMatch) (p : Nat) : List OV := closL p (ks m)
theorem ksA_mem {c : Bool} {k j : Nat} {l : List Nat} (h : j ∈ ksA c k l) : j = k ∨ j ∈ l := by
  unfold ksA at h
  cases c
  · exact .inr h
  · rcases List.mem_append.1 h with h | h
    · exact .inr h
    · exact .inl (List.mem_singleton.1 h)
theorem ks_lt {m : SMatch} {k : Nat} (h : k ∈ ks m) : k < 6 := by
  unfold ks at h
  rcases ksA_mem h with rfl | h <;> (try omega)
  rcases ksA_mem h with rfl | h <;> (try omega)
  rcases ksA_mem h with rfl | h <;> (try omega)
  rcases ksA_mem h with rfl | h <;> (try omega)
  rcases ksA_mem h with rfl | h <;> (try omega)
  rcases ksA_mem h with rfl | h <;> (try omega)
  cases h
def metB (m : SMatch) (n : Int) (h : SHeader) : Bool := (ks m).all fun k => qM k m n h
def meetsB (m : SMatch) (n : Int) (h : SHeader) : Bool := okM m && metB m n h
theorem en110 : Gx.Enters Tryz.prog 110 := Gx.Enters.mk' zk
theorem cl0_ok (m : SMatch) (n : Int) (h : SHeader) (p hp : Nat) (w : World) (hm : PtsTo eMatch w p 0 m) (hh : PtsTo eHeader w hp 0 h) : Calls Tryz.prog 109 #[I n, .pointer (some ⟨hp, 0, none⟩), .pointer (some ⟨p, 0, none⟩)] w (RetV w (.bool (qM 0 m n h))) := by
  refine en0 10 Tryz.func109 ?_
  refine sg (co (Ev.assign (.c (v := .bool false) rfl)) ?_)
  refine nP (sg (co (fA 1 (.t rfl)) ?_))
  refine co (Ev.load ty107 (.t rfl) (ptsL (fun w I => hm.keep I.keeps) SMatch.l_in_)) ?_
  refine mv rfl (cons (callv en110 (.cons (.t rfl) (.cons (.t rfl) .nil)) (fun w I => within_ok _ _ w) ?_))
  refine asn rfl (nP (ret (done rfl (.tmp rfl .nil) (retE ?_))))
  rfl
theorem cl1_ok (m : SMatch) (n : Int) (h : SHeader) (p hp : Nat) (w : World) (hm : PtsTo eMatch w p 0 m) (hh : PtsTo eHeader w hp 0 h) : Calls Tryz.prog 111 #[I n, .pointer (some ⟨hp, 0, none⟩), .pointer (some ⟨p, 0, none⟩)] w (RetV w (.bool (qM 1 m n h))) := by
  refine en0 13 Tryz.func111 ?_
  refine sg (co (Ev.assign (.c (v := .bool false) rfl)) ?_)
  refine nP (seq (draw' zk ?_))
  refine tk 0 rfl (Ev.move (.t rfl)) ?_
  refine tk 1 rfl (Ev.nilCheck (.t rfl)) ?_
  refine tk 2 rfl (fA 34 (.t rfl)) ?_
  refine tk 3 rfl (Ev.load ty5 (.t rfl) (ptsL (fun w I => hh.keep I.keeps) SHeader.l_proto)) ?_
  refine tk 4 rfl (fA 39 (.t rfl)) ?_
  refine tk 5 rfl (Ev.load ty5 (.t rfl) (ptsL (fun w I => hm.keep I.keeps) SMatch.l_proto)) ?_
  refine tk 6 rfl (Ev.eql_u8 (.t rfl) (.t rfl)) ?_
  refine tk 7 rfl (Ev.assign (.t rfl)) ?_
  refine ovr (pN (ret (done rfl (.tmp rfl .nil) (retE ?_))))
  rfl
theorem cl2_ok (m : SMatch) (n : Int) (h : SHeader) (p hp : Nat) (w : World) (hm : PtsTo eMatch w p 0 m) (hh : PtsTo eHeader w hp 0 h) : Calls Tryz.prog 112 #[I n, .pointer (some ⟨hp, 0, none⟩), .pointer (some ⟨p, 0, none⟩)] w (RetV w (.bool (qM 2 m n h))) := by
  refine en0 13 Tryz.func112 ?_
  refine sg (co (Ev.assign (.c (v := .bool false) rfl)) ?_)
  refine nP (seq (draw' zk ?_))
  refine tk 0 rfl (fA 3 (.t rfl)) ?_
  refine tk 1 rfl (Ev.load ty109 (.t rfl) (ptsL (fun w I => hm.keep I.keeps) SMatch.l_src)) ?_
  refine tk 2 rfl (Ev.move (.t rfl)) ?_
  refine tk 3 rfl (Ev.nilCheck (.t rfl)) ?_
  refine tk 4 rfl (fA 0 (.t rfl)) ?_
  refine tk 5 rfl (Ev.load ty45 (.t rfl) (ptsL (fun w I => hh.keep I.keeps) SHeader.l_src)) ?_
  refine al1 6 rfl ((callv en113 (.cons (.t rfl) (.cons (.t rfl) .nil)) (fun w I => hasP_ok _ _ w) ?_))
  refine hdn (tk 7 rfl (Ev.assign (.t rfl)) ?_)
  refine ovr (pN (ret (done rfl (.tmp rfl .nil) (retE ?_))))
  rfl
theorem cl3_ok (m : SMatch) (n : Int) (h : SHeader) (p hp : Nat) (w : World) (hm : PtsTo eMatch w p 0 m) (hh : PtsTo eHeader w hp 0 h) : Calls Tryz.prog 114 #[I n, .pointer (some ⟨hp, 0, none⟩), .pointer (some ⟨p, 0, none⟩)] w (RetV w (.bool (qM 3 m n h))) := by
  refine en0 13 Tryz.func114 ?_
  refine sg (co (Ev.assign (.c (v := .bool false) rfl)) ?_)
  refine nP (seq (draw' zk ?_))
  refine tk 0 rfl (fA 21 (.t rfl)) ?_
  refine tk 1 rfl (Ev.load ty109 (.t rfl) (ptsL (fun w I => hm.keep I.keeps) SMatch.l_dst)) ?_
  refine tk 2 rfl (Ev.move (.t rfl)) ?_
  refine tk 3 rfl (Ev.nilCheck (.t rfl)) ?_
  refine tk 4 rfl (fA 17 (.t rfl)) ?_
  refine tk 5 rfl (Ev.load ty45 (.t rfl) (ptsL (fun w I => hh.keep I.keeps) SHeader.l_dst)) ?_
  refine al1 6 rfl ((callv en113 (.cons (.t rfl) (.cons (.t rfl) .nil)) (fun w I => hasP_ok _ _ w) ?_))
  refine hdn (tk 7 rfl (Ev.assign (.t rfl)) ?_)
  refine ovr (pN (ret (done rfl (.tmp rfl .nil) (retE ?_))))
  rfl
theorem cl4_ok (m : SMatch) (n : Int) (h : SHeader) (p hp : Nat) (w : World) (hm : PtsTo eMatch w p 0 m) (hh : PtsTo eHeader w hp 0 h) : Calls Tryz.prog 115 #[I n, .pointer (some ⟨hp, 0, none⟩), .pointer (some ⟨p, 0, none⟩)] w (RetV w (.bool (qM 4 m n h))) := by
  refine en0 14 Tryz.func115 ?_
  refine sg (co (Ev.assign (.c (v := .bool false) rfl)) ?_)
  refine nP (seq (draw' zk ?_))
  refine tk 0 rfl (fA 40 (.t rfl)) ?_
  refine tk 1 rfl (Ev.load ty107 (.t rfl) (ptsL (fun w I => hm.keep I.keeps) SMatch.l_srcPort)) ?_
  refine tk 2 rfl (Ev.move (.t rfl)) ?_
  refine tk 3 rfl (Ev.nilCheck (.t rfl)) ?_
  refine tk 4 rfl (fA 35 (.t rfl)) ?_
  refine tk 5 rfl (Ev.load ty46 (.t rfl) (ptsL (fun w I => hh.keep I.keeps) SHeader.l_srcPort)) ?_
  refine tk 6 rfl (Ev.conv_u16_i Tryz.underlying3 Tryz.underlying46 (.t rfl)) ?_
  refine al1 7 rfl ((callv en110 (.cons (.t rfl) (.cons (.t rfl) .nil)) (fun w I => within_ok _ _ w) ?_))
  refine hdn (tk 8 rfl (Ev.assign (.t rfl)) ?_)
  refine ovr (pN (ret (done rfl (.tmp rfl .nil) (retE ?_))))
  rfl
theorem cl5_ok (m : SMatch) (n : Int) (h : SHeader) (p hp : Nat) (w : World) (hm : PtsTo eMatch w p 0 m) (hh : PtsTo eHeader w hp 0 h) : Calls Tryz.prog 116 #[I n, .pointer (some ⟨hp, 0, none⟩), .pointer (some ⟨p, 0, none⟩)] w (RetV w (.bool (qM 5 m n h))) := by
  refine en0 14 Tryz.func116 ?_
  refine sg (co (Ev.assign (.c (v := .bool false) rfl)) ?_)
  refine nP (seq (draw' zk ?_))
  refine tk 0 rfl (fA 42 (.t rfl)) ?_
  refine tk 1 rfl (Ev.load ty107 (.t rfl) (ptsL (fun w I => hm.keep I.keeps) SMatch.l_dstPort)) ?_
  refine tk 2 rfl (Ev.move (.t rfl)) ?_
  refine tk 3 rfl (Ev.nilCheck (.t rfl)) ?_
  refine tk 4 rfl (fA 36 (.t rfl)) ?_
  refine tk 5 rfl (Ev.load ty46 (.t rfl) (ptsL (fun w I => hh.keep I.keeps) SHeader.l_dstPort)) ?_
  refine tk 6 rfl (Ev.conv_u16_i Tryz.underlying3 Tryz.underlying46 (.t rfl)) ?_
  refine al1 7 rfl ((callv en110 (.cons (.t rfl) (.cons (.t rfl) .nil)) (fun w I => within_ok _ _ w) ?_))
  refine hdn (tk 8 rfl (Ev.assign (.t rfl)) ?_)
  refine ovr (pN (ret (done rfl (.tmp rfl .nil) (retE ?_))))
  rfl
theorem en109 : Gx.Enters Tryz.prog 109 := Gx.Enters.mk' zk
theorem en111 : Gx.Enters Tryz.prog 111 := Gx.Enters.mk' zk
theorem en112 : Gx.Enters Tryz.prog 112 := Gx.Enters.mk' zk
theorem en114 : Gx.Enters Tryz.prog 114 := Gx.Enters.mk' zk
theorem en115 : Gx.Enters Tryz.prog 115 := Gx.Enters.mk' zk
theorem en116 : Gx.Enters Tryz.prog 116 := Gx.Enters.mk' zk
theorem cl_en : ∀ k, k < 6 → Gx.Enters Tryz.prog (fM k)
  | 0, _ => en109
  | 1, _ => en111
  | 2, _ => en112
  | 3, _ => en114
  | 4, _ => en115
  | 5, _ => en116
  | k + 6, h => absurd h (by omega)
theorem cl_ok : ∀ k, k < 6 → ∀ (m : SMatch) (n : Int) (h : SHeader) (p hp : Nat) (w : World) (hm : PtsTo eMatch w p 0 m) (hh : PtsTo eHeader w hp 0 h), Calls Tryz.prog (fM k) #[I n, .pointer (some ⟨hp, 0, none⟩), .pointer (some ⟨p, 0, none⟩)] w (RetV w (.bool (qM k m n h)))
  | 0, _ => cl0_ok
  | 1, _ => cl1_ok
  | 2, _ => cl2_ok
  | 3, _ => cl3_ok
  | 4, _ => cl4_ok
  | 5, _ => cl5_ok
  | k + 6, h => absurd h (by omega)
theorem ty238 : TyOK Tryz.prog 238 (ovE nilFn) := TyOK.mk' zk zk
theorem z238 : (Tryz.prog.info? 238).bind (·.zero) = some ((ovE nilFn).val (ovE nilFn).zero) := by kernel_rfl
theorem zb238 : (Tryz.prog.info? 238).map (fun i => (i.zero, i.bytes)) = some (some ((ovE nilFn).val (ovE nilFn).zero), 8) := by kernel_rfl
theorem zs238 : ((ovE nilFn).val (ovE nilFn).zero).cells.size = (ovE nilFn).size := by rw [Enc.cells_val, List.size_toArray, Enc.len]
theorem compiled_ok (m : SMatch) (w : World) : Calls Tryz.prog 75 #[eMatch.val m] w (RetN w (fun _ : OV × Nat => True) (fun x => x.1.v) (fun x => [OwnS x.1.v (ovE nilFn) (clos m x.2) 238, Var x.2 eMatch m 111])) := by
  refine en0 41 Tryz.func75 ?_
  refine sg (cons (box (E := eMatch) (.t rfl) (fun b1 => ?_)))
  refine co (Ev.assign (.c (v := (Go.Value.slice none 0 0)) rfl)) ?_
  refine nP (sg (co (Ev.assign (.c (v := (Go.Value.slice none 0 0)) rfl)) ?_))
  refine takeNil (ovE nilFn) 238 ?_
  refine nP (cut (X := OV × (List Nat)) (fun x : OV × (List Nat) => (x.2 = ksA (asksB m 1) 0 []) ∧ (x.2.length ≤ 1)) (fun x : OV × (List Nat) => [dz, (1, true, .pointer (some ⟨b1, 0, none⟩)), (3, true, x.1.v)]) (fun x : OV × (List Nat) => [OwnS x.1.v (ovE nilFn) (closL b1 x.2) 238, Var b1 eMatch m 111]) ?_ (fun x hx => ?_))
  · refine sg (co (Ev.ldx m ty111 (.t rfl) (Lens.id _)) ?_)
    refine cons (callv en108 (.cons (.t rfl) (.cons (.c (v := U8 1) rfl) .nil)) (fun w I => asks_ok _ _ w) ?_)
    refine nP ?_
    first | refine condD rfl (fun h0 => ?_) (fun h0 => ?_) | refine cond rfl (fun h0 => ?_) (fun h0 => ?_)
    · refine region (mv rfl (co (Ev.makeFunc (f := 109) (.cons (.t rfl) .nil)) ?_))
      refine cons (buildSlice (E := (ovE nilFn)) Tryz.underlying187 ty238 z238 (.cons (.t rfl) .nil) rfl rfl (fun v2 => ?_))
      refine cons (app (E := (ovE nilFn)) Tryz.underlying187 ty238 zb238 zs238 (.t rfl) (.t rfl) (fun v3 => ?_) (hby := ⟨by first | ((show _ ≤ 9223372036854775807); simp; done) | ((show _ ≤ 9223372036854775807); simp [closL]; omega), by first | (simp; done) | (simp [closL]; omega)⟩))
      refine asn rfl (nP (mt (X := OV × (List Nat)) (_, [] ++ [0]) ⟨?_, ?_⟩ (hL := (by first | exact List.Sublist.refl _ | (simp only [closL, List.map_append, List.map_cons, List.map_nil]; repeat first | exact List.Sublist.refl _ | apply List.Sublist.cons_cons | apply List.Sublist.cons)))))
      · try dsimp only
        unfold ksA; simp_all [asksB]
      · try dsimp only
        first | omega | (simp; omega) | simp
    · refine skip (pN (mt (X := OV × (List Nat)) (nilSl, []) ⟨?_, ?_⟩ (hL := (by first | exact List.Sublist.refl _ | (simp only [closL, List.map_append, List.map_cons, List.map_nil]; repeat first | exact List.Sublist.refl _ | apply List.Sublist.cons_cons | apply List.Sublist.cons)))))
      · try dsimp only
        unfold ksA; simp_all [asksB]
      · try dsimp only
        first | omega | (simp; omega) | simp
  obtain ⟨o1, l1⟩ := x
  obtain ⟨hl1, hn1⟩ : (l1 = ksA (asksB m 1) 0 []) ∧ (l1.length ≤ 1) := hx
  show Sat _ _ [dz, (1, true, .pointer (some ⟨b1, 0, none⟩)), (3, true, o1.v)] [OwnS o1.v (ovE nilFn) (closL b1 l1) 238, Var b1 eMatch m 111]
  refine cut (X := OV × (List Nat)) (fun x : OV × (List Nat) => (x.2 = ksA (asksB m 8) 1 l1) ∧ (x.2.length ≤ 2)) (fun x : OV × (List Nat) => [dz, (1, true, .pointer (some ⟨b1, 0, none⟩)), (3, true, x.1.v)]) (fun x : OV × (List Nat) => [OwnS x.1.v (ovE nilFn) (closL b1 x.2) 238, Var b1 eMatch m 111]) ?_ (fun x hx => ?_)
  · refine sg (co (Ev.ldx m ty111 (.t rfl) (Lens.id _)) ?_)
    refine cons (callv en108 (.cons (.t rfl) (.cons (.c (v := U8 8) rfl) .nil)) (fun w I => asks_ok _ _ w) ?_)
    refine nP ?_
    first | refine condD rfl (fun h1 => ?_) (fun h1 => ?_) | refine cond rfl (fun h1 => ?_) (fun h1 => ?_)
    · refine region (mv rfl (co (Ev.makeFunc (f := 111) (.cons (.t rfl) .nil)) ?_))
      refine cons (buildSlice (E := (ovE nilFn)) Tryz.underlying187 ty238 z238 (.cons (.t rfl) .nil) rfl rfl (fun v4 => ?_))
      refine cons (app (E := (ovE nilFn)) Tryz.underlying187 ty238 zb238 zs238 (.t rfl) (.t rfl) (fun v5 => ?_) (hby := ⟨by first | ((show _ ≤ 9223372036854775807); simp; done) | ((show _ ≤ 9223372036854775807); simp [closL]; omega), by first | (simp; done) | (simp [closL]; omega)⟩))
      refine asn rfl (nP (mt (X := OV × (List Nat)) (_, l1 ++ [1]) ⟨?_, ?_⟩ (hL := (by first | exact List.Sublist.refl _ | (simp only [closL, List.map_append, List.map_cons, List.map_nil]; repeat first | exact List.Sublist.refl _ | apply List.Sublist.cons_cons | apply List.Sublist.cons)))))
      · try dsimp only
        unfold ksA; simp_all [asksB]
      · try dsimp only
        first | omega | (simp; omega) | simp
    · refine skip (pN (mt (X := OV × (List Nat)) (o1, l1) ⟨?_, ?_⟩ (hL := (by first | exact List.Sublist.refl _ | (simp only [closL, List.map_append, List.map_cons, List.map_nil]; repeat first | exact List.Sublist.refl _ | apply List.Sublist.cons_cons | apply List.Sublist.cons)))))
      · try dsimp only
        unfold ksA; simp_all [asksB]
      · try dsimp only
        first | omega | (simp; omega) | simp
  obtain ⟨o2, l2⟩ := x
  obtain ⟨hl2, hn2⟩ : (l2 = ksA (asksB m 8) 1 l1) ∧ (l2.length ≤ 2) := hx
  show Sat _ _ [dz, (1, true, .pointer (some ⟨b1, 0, none⟩)), (3, true, o2.v)] [OwnS o2.v (ovE nilFn) (closL b1 l2) 238, Var b1 eMatch m 111]
  refine cut (X := OV × (List Nat)) (fun x : OV × (List Nat) => (x.2 = ksA (asksB m 2) 2 l2) ∧ (x.2.length ≤ 3)) (fun x : OV × (List Nat) => [dz, (1, true, .pointer (some ⟨b1, 0, none⟩)), (3, true, x.1.v)]) (fun x : OV × (List Nat) => [OwnS x.1.v (ovE nilFn) (closL b1 x.2) 238, Var b1 eMatch m 111]) ?_ (fun x hx => ?_)
  · refine sg (co (Ev.ldx m ty111 (.t rfl) (Lens.id _)) ?_)
    refine cons (callv en108 (.cons (.t rfl) (.cons (.c (v := U8 2) rfl) .nil)) (fun w I => asks_ok _ _ w) ?_)
    refine nP ?_
    first | refine condD rfl (fun h2 => ?_) (fun h2 => ?_) | refine cond rfl (fun h2 => ?_) (fun h2 => ?_)
    · refine region (mv rfl (co (Ev.makeFunc (f := 112) (.cons (.t rfl) .nil)) ?_))
      refine cons (buildSlice (E := (ovE nilFn)) Tryz.underlying187 ty238 z238 (.cons (.t rfl) .nil) rfl rfl (fun v6 => ?_))
      refine cons (app (E := (ovE nilFn)) Tryz.underlying187 ty238 zb238 zs238 (.t rfl) (.t rfl) (fun v7 => ?_) (hby := ⟨by first | ((show _ ≤ 9223372036854775807); simp; done) | ((show _ ≤ 9223372036854775807); simp [closL]; omega), by first | (simp; done) | (simp [closL]; omega)⟩))
      refine asn rfl (nP (mt (X := OV × (List Nat)) (_, l2 ++ [2]) ⟨?_, ?_⟩ (hL := (by first | exact List.Sublist.refl _ | (simp only [closL, List.map_append, List.map_cons, List.map_nil]; repeat first | exact List.Sublist.refl _ | apply List.Sublist.cons_cons | apply List.Sublist.cons)))))
      · try dsimp only
        unfold ksA; simp_all [asksB]
      · try dsimp only
        first | omega | (simp; omega) | simp
    · refine skip (pN (mt (X := OV × (List Nat)) (o2, l2) ⟨?_, ?_⟩ (hL := (by first | exact List.Sublist.refl _ | (simp only [closL, List.map_append, List.map_cons, List.map_nil]; repeat first | exact List.Sublist.refl _ | apply List.Sublist.cons_cons | apply List.Sublist.cons)))))
      · try dsimp only
        unfold ksA; simp_all [asksB]
      · try dsimp only
        first | omega | (simp; omega) | simp
  obtain ⟨o3, l3⟩ := x
  obtain ⟨hl3, hn3⟩ : (l3 = ksA (asksB m 2) 2 l2) ∧ (l3.length ≤ 3) := hx
  show Sat _ _ [dz, (1, true, .pointer (some ⟨b1, 0, none⟩)), (3, true, o3.v)] [OwnS o3.v (ovE nilFn) (closL b1 l3) 238, Var b1 eMatch m 111]
  refine cut (X := OV × (List Nat)) (fun x : OV × (List Nat) => (x.2 = ksA (asksB m 4) 3 l3) ∧ (x.2.length ≤ 4)) (fun x : OV × (List Nat) => [dz, (1, true, .pointer (some ⟨b1, 0, none⟩)), (3, true, x.1.v)]) (fun x : OV × (List Nat) => [OwnS x.1.v (ovE nilFn) (closL b1 x.2) 238, Var b1 eMatch m 111]) ?_ (fun x hx => ?_)
  · refine sg (co (Ev.ldx m ty111 (.t rfl) (Lens.id _)) ?_)
    refine cons (callv en108 (.cons (.t rfl) (.cons (.c (v := U8 4) rfl) .nil)) (fun w I => asks_ok _ _ w) ?_)
    refine nP ?_
    first | refine condD rfl (fun h3 => ?_) (fun h3 => ?_) | refine cond rfl (fun h3 => ?_) (fun h3 => ?_)
    · refine region (mv rfl (co (Ev.makeFunc (f := 114) (.cons (.t rfl) .nil)) ?_))
      refine cons (buildSlice (E := (ovE nilFn)) Tryz.underlying187 ty238 z238 (.cons (.t rfl) .nil) rfl rfl (fun v8 => ?_))
      refine cons (app (E := (ovE nilFn)) Tryz.underlying187 ty238 zb238 zs238 (.t rfl) (.t rfl) (fun v9 => ?_) (hby := ⟨by first | ((show _ ≤ 9223372036854775807); simp; done) | ((show _ ≤ 9223372036854775807); simp [closL]; omega), by first | (simp; done) | (simp [closL]; omega)⟩))
      refine asn rfl (nP (mt (X := OV × (List Nat)) (_, l3 ++ [3]) ⟨?_, ?_⟩ (hL := (by first | exact List.Sublist.refl _ | (simp only [closL, List.map_append, List.map_cons, List.map_nil]; repeat first | exact List.Sublist.refl _ | apply List.Sublist.cons_cons | apply List.Sublist.cons)))))
      · try dsimp only
        unfold ksA; simp_all [asksB]
      · try dsimp only
        first | omega | (simp; omega) | simp
    · refine skip (pN (mt (X := OV × (List Nat)) (o3, l3) ⟨?_, ?_⟩ (hL := (by first | exact List.Sublist.refl _ | (simp only [closL, List.map_append, List.map_cons, List.map_nil]; repeat first | exact List.Sublist.refl _ | apply List.Sublist.cons_cons | apply List.Sublist.cons)))))
      · try dsimp only
        unfold ksA; simp_all [asksB]
      · try dsimp only
        first | omega | (simp; omega) | simp
  obtain ⟨o4, l4⟩ := x
  obtain ⟨hl4, hn4⟩ : (l4 = ksA (asksB m 4) 3 l3) ∧ (l4.length ≤ 4) := hx
  show Sat _ _ [dz, (1, true, .pointer (some ⟨b1, 0, none⟩)), (3, true, o4.v)] [OwnS o4.v (ovE nilFn) (closL b1 l4) 238, Var b1 eMatch m 111]
  refine cut (X := OV × (List Nat)) (fun x : OV × (List Nat) => (x.2 = ksA (asksB m 16) 4 l4) ∧ (x.2.length ≤ 5)) (fun x : OV × (List Nat) => [dz, (1, true, .pointer (some ⟨b1, 0, none⟩)), (3, true, x.1.v)]) (fun x : OV × (List Nat) => [OwnS x.1.v (ovE nilFn) (closL b1 x.2) 238, Var b1 eMatch m 111]) ?_ (fun x hx => ?_)
  · refine sg (co (Ev.ldx m ty111 (.t rfl) (Lens.id _)) ?_)
    refine cons (callv en108 (.cons (.t rfl) (.cons (.c (v := U8 16) rfl) .nil)) (fun w I => asks_ok _ _ w) ?_)
    refine nP ?_
    first | refine condD rfl (fun h4 => ?_) (fun h4 => ?_) | refine cond rfl (fun h4 => ?_) (fun h4 => ?_)
    · refine region (mv rfl (co (Ev.makeFunc (f := 115) (.cons (.t rfl) .nil)) ?_))
      refine cons (buildSlice (E := (ovE nilFn)) Tryz.underlying187 ty238 z238 (.cons (.t rfl) .nil) rfl rfl (fun v10 => ?_))
      refine cons (app (E := (ovE nilFn)) Tryz.underlying187 ty238 zb238 zs238 (.t rfl) (.t rfl) (fun v11 => ?_) (hby := ⟨by first | ((show _ ≤ 9223372036854775807); simp; done) | ((show _ ≤ 9223372036854775807); simp [closL]; omega), by first | (simp; done) | (simp [closL]; omega)⟩))
      refine asn rfl (nP (mt (X := OV × (List Nat)) (_, l4 ++ [4]) ⟨?_, ?_⟩ (hL := (by first | exact List.Sublist.refl _ | (simp only [closL, List.map_append, List.map_cons, List.map_nil]; repeat first | exact List.Sublist.refl _ | apply List.Sublist.cons_cons | apply List.Sublist.cons)))))
      · try dsimp only
        unfold ksA; simp_all [asksB]
      · try dsimp only
        first | omega | (simp; omega) | simp
    · refine skip (pN (mt (X := OV × (List Nat)) (o4, l4) ⟨?_, ?_⟩ (hL := (by first | exact List.Sublist.refl _ | (simp only [closL, List.map_append, List.map_cons, List.map_nil]; repeat first | exact List.Sublist.refl _ | apply List.Sublist.cons_cons | apply List.Sublist.cons)))))
      · try dsimp only
        unfold ksA; simp_all [asksB]
      · try dsimp only
        first | omega | (simp; omega) | simp
  obtain ⟨o5, l5⟩ := x
  obtain ⟨hl5, hn5⟩ : (l5 = ksA (asksB m 16) 4 l4) ∧ (l5.length ≤ 5) := hx
  show Sat _ _ [dz, (1, true, .pointer (some ⟨b1, 0, none⟩)), (3, true, o5.v)] [OwnS o5.v (ovE nilFn) (closL b1 l5) 238, Var b1 eMatch m 111]
  refine cut (X := OV × (List Nat)) (fun x : OV × (List Nat) => (x.2 = ksA (asksB m 32) 5 l5) ∧ (x.2.length ≤ 6)) (fun x : OV × (List Nat) => [dz, (1, true, .pointer (some ⟨b1, 0, none⟩)), (3, true, x.1.v)]) (fun x : OV × (List Nat) => [OwnS x.1.v (ovE nilFn) (closL b1 x.2) 238, Var b1 eMatch m 111]) ?_ (fun x hx => ?_)
  · refine sg (co (Ev.ldx m ty111 (.t rfl) (Lens.id _)) ?_)
    refine cons (callv en108 (.cons (.t rfl) (.cons (.c (v := U8 32) rfl) .nil)) (fun w I => asks_ok _ _ w) ?_)
    refine nP ?_
    first | refine condD rfl (fun h5 => ?_) (fun h5 => ?_) | refine cond rfl (fun h5 => ?_) (fun h5 => ?_)
    · refine region (mv rfl (co (Ev.makeFunc (f := 116) (.cons (.t rfl) .nil)) ?_))
      refine cons (buildSlice (E := (ovE nilFn)) Tryz.underlying187 ty238 z238 (.cons (.t rfl) .nil) rfl rfl (fun v12 => ?_))
      refine cons (app (E := (ovE nilFn)) Tryz.underlying187 ty238 zb238 zs238 (.t rfl) (.t rfl) (fun v13 => ?_) (hby := ⟨by first | ((show _ ≤ 9223372036854775807); simp; done) | ((show _ ≤ 9223372036854775807); simp [closL]; omega), by first | (simp; done) | (simp [closL]; omega)⟩))
      refine asn rfl (nP (mt (X := OV × (List Nat)) (_, l5 ++ [5]) ⟨?_, ?_⟩ (hL := (by first | exact List.Sublist.refl _ | (simp only [closL, List.map_append, List.map_cons, List.map_nil]; repeat first | exact List.Sublist.refl _ | apply List.Sublist.cons_cons | apply List.Sublist.cons)))))
      · try dsimp only
        unfold ksA; simp_all [asksB]
      · try dsimp only
        first | omega | (simp; omega) | simp
    · refine skip (pN (mt (X := OV × (List Nat)) (o5, l5) ⟨?_, ?_⟩ (hL := (by first | exact List.Sublist.refl _ | (simp only [closL, List.map_append, List.map_cons, List.map_nil]; repeat first | exact List.Sublist.refl _ | apply List.Sublist.cons_cons | apply List.Sublist.cons)))))
      · try dsimp only
        unfold ksA; simp_all [asksB]
      · try dsimp only
        first | omega | (simp; omega) | simp
  obtain ⟨o6, l6⟩ := x
  obtain ⟨hl6, hn6⟩ : (l6 = ksA (asksB m 32) 5 l5) ∧ (l6.length ≤ 6) := hx
  show Sat _ _ [dz, (1, true, .pointer (some ⟨b1, 0, none⟩)), (3, true, o6.v)] [OwnS o6.v (ovE nilFn) (closL b1 l6) 238, Var b1 eMatch m 111]
  refine sg (mv rfl (asn rfl (nP (ret (done rfl (.tmp rfl .nil) (fun w I => ?_))))))
  exact retN (o6, b1) trivial rfl (by unfold clos ks; rw [← hl1, ← hl2, ← hl3, ← hl4, ← hl5, ← hl6]; exact List.Sublist.refl _) w I
theorem clos_len (m : SMatch) (p : Nat) : (clos m p).length = (ks m).length := by simp [clos, closL]
theorem clos_get (m : SMatch) (p : Nat) (i : Nat) (h : i < (ks m).length) : (clos m p).getD i nilFn = clo (fM ((ks m).getD i 0)) [.pointer (some ⟨p, 0, none⟩)] := by
  simp [clos, closL, List.getD, h]
theorem getD_mem {α : Type} (l : List α) (i : Nat) (d : α) (h : i < l.length) : l.getD i d ∈ l := by simp [List.getD, h]
theorem meetsL_ok (u : Value) (m : SMatch) (n : Int) (h : SHeader) (p hp : Nat) (w : World) (hs : IsSl (ovE nilFn) w u (clos m p)) (hm : PtsTo eMatch w p 0 m) (hh : PtsTo eHeader w hp 0 h) : Calls Tryz.prog 86 #[u, I n, .pointer (some ⟨hp, 0, none⟩)] w (RetV w (.bool (metB m n h))) := by
  have hle := hs.le
  have hcl := clos_len m p
  refine en0 21 Tryz.func86 ?_
  refine sg (co (Ev.assign (.c (v := .bool false) rfl)) ?_)
  refine nP (seq (sg (mv rfl (co (Ev.len Tryz.underlying187 (.t rfl) zf) ?_))))
  refine co (Ev.move (.c (v := I 0) rfl)) ?_
  refine nP (block (lp (X := Int) (fun x : Int => (0 ≤ x ∧ x ≤ (clos m p).length) ∧ (((ks m).take x.toNat).all (fun k => qM k m n h) = true)) (fun x : Int => [dz, (1, true, I n), (2, true, .pointer (some ⟨hp, 0, none⟩)), (9, true, u), (10, true, I (clos m p).length), (11, true, I x)]) (fun x : Int => []) (fun x : Int => ((clos m p).length - x).toNat) (0) ⟨?_, ?_⟩ (fun x hx => ?_)))
  · omega
  · rfl
  obtain ⟨i, rfl⟩ : ∃ y, y = x := ⟨x, rfl⟩
  obtain ⟨hi, hq⟩ : (0 ≤ i ∧ i ≤ (clos m p).length) ∧ (((ks m).take i.toNat).all (fun k => qM k m n h) = true) := hx
  show Sat _ _ [dz, (1, true, I n), (2, true, .pointer (some ⟨hp, 0, none⟩)), (9, true, u), (10, true, I (clos m p).length), (11, true, I i)] []
  refine sg (co (Ev.lss_i (.t rfl) (.t rfl)) ?_)
  refine nP (seq ?_)
  first | refine condD rfl (fun hlt => ?_) (fun hge => ?_) | refine cond rfl (fun hlt => ?_) (fun hge => ?_)
  · try simp only [Gx.nb] at hlt
    refine skip (pN (seq (block (sg (co (Ev.indexAddr Tryz.underlying187 ty238 (.t rfl) (.t rfl) zf (fun _ => zo)) ?_)))))
    refine co (Ev.loadS0 ty238 (.t rfl) zf (fun _ => zo)) ?_
    refine asn rfl (nP (sg ?_))
    have hil : i.toNat < (ks m).length := by omega
    have hk6 := ks_lt (getD_mem (ks m) i.toNat 0 hil)
    refine co (Ev.to (v' := (clo (fM ((ks m).getD i.toNat 0)) [.pointer (some ⟨p, 0, none⟩)]).v) (Ev.move (.t rfl)) (by show ((clos m p).getD i.toNat nilFn).v = _; rw [clos_get m p _ hil])) ?_
    refine mv rfl (mv rfl (cons (callcv (.t rfl) (cl_en _ hk6) (.cons (.t rfl) (.cons (.t rfl) .nil)) (fun w I => cl_ok _ hk6 m n h p hp w (hm.keep I.keeps) (hh.keep I.keeps)) ?_)))
    refine co (Ev.not (.t rfl)) ?_
    refine nP ?_
    first | refine condD rfl (fun h1 => ?_) (fun h1 => ?_) | refine cond rfl (fun h1 => ?_) (fun h1 => ?_)
    · refine sg (co (Ev.assign (.c (v := .bool false) rfl)) ?_)
      refine nP (ret (bR (pR (pR (bR (pR (done rfl (.tmp rfl .nil) (retE ?_))))))))
      refine bX2 ?_
      symm
      rw [Bool.eq_false_iff]
      intro hall
      have h2 := List.all_eq_true.1 hall _ (getD_mem (ks m) i.toNat 0 hil)
      rw [h2] at h1
      simp at h1
    · refine skip (bN (pN (region (co (Ev.add_i (.t rfl) (.c (v := I 1) rfl) (fun _ => zo)) ?_))))
      refine mv rfl (nP (nx (X := Int) (i + 1) ⟨?_, ?_⟩ ?_))
      · try dsimp only
        omega
      · try dsimp only
        rw [take_snoc (ks m) i hi.1 (by omega) 0, List.all_append, hq]
        simpa using h1
      · try dsimp only
        omega
  · try simp only [Gx.nb] at hge
    refine exit (pX (pX (bX (pN (sg (co (Ev.assign (.c (v := .bool true) rfl)) ?_))))))
    refine nP (ret (done rfl (.tmp rfl .nil) (retE ?_)))
    refine bX2 ?_
    rw [List.take_of_length_le (by omega)] at hq
    unfold metB
    rw [hq]
structure SRuleRules where
  matches_ : OV
  asked : OV
def SRuleRules.to : (OV × OV) → SRuleRules := fun x => ⟨x.1, x.2⟩
def SRuleRules.of : SRuleRules → (OV × OV) := fun x => (x.matches_, x.asked)
def eRuleRules : Enc SRuleRules := isoE (prodE (ovE nilSl) (ovE nilSl)) SRuleRules.to SRuleRules.of
def SRuleRules.l_matches_ : Lens eRuleRules (ovE nilSl) 0 := lIso _ SRuleRules.to SRuleRules.of (fun _ => rfl) (lFst (ovE nilSl) (ovE nilSl))
@[simp] theorem SRuleRules.get_matches_ (x : SRuleRules) : SRuleRules.l_matches_.get x = x.matches_ := rfl
@[simp] theorem SRuleRules.set_matches_ (x : SRuleRules) (y : OV) : SRuleRules.l_matches_.set x y = { x with matches_ := y } := rfl
def SRuleRules.l_asked : Lens eRuleRules (ovE nilSl) 1 := lIso _ SRuleRules.to SRuleRules.of (fun _ => rfl) (Lens.comp (lSnd (ovE nilSl) (ovE nilSl)) (Lens.id (ovE nilSl)))
@[simp] theorem SRuleRules.get_asked (x : SRuleRules) : SRuleRules.l_asked.get x = x.asked := rfl
@[simp] theorem SRuleRules.set_asked (x : SRuleRules) (y : OV) : SRuleRules.l_asked.set x y = { x with asked := y } := rfl
def RulesAt (w : World) (b : Nat) (l : List SMatch) : Prop := ∃ (mo ao : OV) (os : List OV) (bs : Nat → Nat), PtsTo eRuleRules w b 0 ⟨mo, ao⟩ ∧ IsSl eMatch w mo.v l ∧ IsSl (ovE nilSl) w ao.v os ∧ os.length = l.length ∧ ∀ k, k < l.length → IsSl (ovE nilFn) w (os.getD k nilSl).v (clos (l.getD k eMatch.zero) (bs k)) ∧ PtsTo eMatch w (bs k) 0 (l.getD k eMatch.zero)
theorem RulesAt.keep {w w' : World} {b : Nat} {l : List SMatch} (h : RulesAt w b l) (k : Keeps Nope w w') : RulesAt w' b l := by
  obtain ⟨mo, ao, os, bs, h1, h2, h3, h4, h5⟩ := h
  exact ⟨mo, ao, os, bs, h1.keep k, h2.keep0 k, h3.keep0 k, h4, fun j hj => ⟨(h5 j hj).1.keep0 k, (h5 j hj).2.keep k⟩⟩
def compE (l : List SMatch) : Int := bif decide (256 < l.length) then 4 else bif l.all okM then 0 else 190
def ptrO (l : List SMatch) (b : Nat) : Option Addr := bif decide (compE l = 0) then some ⟨b, 0, none⟩ else none
def ptrC (l : List SMatch) (b : Nat) : Value := .pointer (ptrO l b)
theorem ptrO_ok {l : List SMatch} (b : Nat) (h : compE l = 0) : ptrO l b = some ⟨b, 0, none⟩ := by
  unfold ptrO
  simp [h]
def CompJ (l : List SMatch) (x : Nat × List Res) : Prop := compE l = 0 → ∀ w, (∀ r ∈ x.2, r.A w) → RulesAt w x.1 l
def compV (l : List SMatch) (x : Nat × List Res) : Value := .tuple #[ptrC l x.1, I (compE l)]
theorem all_snoc (l : List SMatch) (i : Int) (h0 : 0 ≤ i) (h1 : i < l.length) (ha : (l.take i.toNat).all okM = true) (hi : okM (l.getD i.toNat eMatch.zero) = true) : (l.take (i + 1).toNat).all okM = true := by
  rw [take_snoc l i h0 h1 eMatch.zero, List.all_append, ha]
  simpa using hi
theorem not_all (l : List SMatch) (i : Nat) (h1 : i < l.length) (hi : okM (l.getD i eMatch.zero) = false) : l.all okM = false := by
  rw [Bool.eq_false_iff]
  intro h
  have := List.all_eq_true.1 h _ (getD_mem l i eMatch.zero h1)
  rw [hi] at this
  cases this
theorem z185 : (Tryz.prog.info? 185).bind (·.zero) = some (eRuleRules.val eRuleRules.zero) := by kernel_rfl
theorem z111 : (Tryz.prog.info? 111).bind (·.zero) = some (eMatch.val eMatch.zero) := by kernel_rfl
theorem ty139 : TyOK Tryz.prog 139 (ovE nilSl) := TyOK.mk' zk zk
theorem zb111 : (Tryz.prog.info? 111).map (fun i => (i.zero, i.bytes)) = some (some (eMatch.val eMatch.zero), 88) := by kernel_rfl
theorem zs111 : (eMatch.val eMatch.zero).cells.size = eMatch.size := by rw [Enc.cells_val, List.size_toArray, Enc.len]
theorem ty183 : TyOK Tryz.prog 183 (ovE nilSl) := TyOK.mk' zk zk
theorem en75 : Gx.Enters Tryz.prog 75 := Gx.Enters.mk' zk
theorem ty187 : TyOK Tryz.prog 187 (ovE nilSl) := TyOK.mk' zk zk
theorem z187 : (Tryz.prog.info? 187).bind (·.zero) = some ((ovE nilSl).val (ovE nilSl).zero) := by kernel_rfl
theorem zb187 : (Tryz.prog.info? 187).map (fun i => (i.zero, i.bytes)) = some (some ((ovE nilSl).val (ovE nilSl).zero), 24) := by kernel_rfl
theorem zs187 : ((ovE nilSl).val (ovE nilSl).zero).cells.size = (ovE nilSl).size := by rw [Enc.cells_val, List.size_toArray, Enc.len]
theorem compile_ok (u : Value) (l : List SMatch) (w : World) (hl : IsSl eMatch w u l) : Calls Tryz.prog 46 #[u] w (RetN w (CompJ l) (compV l) (fun x => x.2)) := by
  have hle := hl.le
  refine en0 47 Tryz.func46 ?_
  refine sg (co (Ev.assign (.c (v := (Go.Value.pointer none)) rfl)) ?_)
  refine co (Ev.assign (.c (v := I 0) rfl)) ?_
  refine nP (seq (sg (mv rfl (co (Ev.len Tryz.underlying139 (.t rfl) zf) ?_))))
  refine co (Ev.gtr_i (.t rfl) (.c (v := I 256) rfl)) ?_
  refine nP ?_
  first | refine condD rfl (fun hbig => ?_) (fun hsmall => ?_) | refine cond rfl (fun hbig => ?_) (fun hsmall => ?_)
  · try simp only [Gx.nb] at hbig
    refine sg (co (Ev.assign (.c (v := (Go.Value.pointer none)) rfl)) ?_)
    refine co (Ev.assign (.c (v := I 4) rfl)) ?_
    refine nP (ret (pR (done rfl (.tmp rfl (.tmp rfl .nil)) (fun w I => ?_))))
    have hc : compE l = 4 := by unfold compE; rw [decide_eq_true (by omega)]; rfl
    exact retN (0, []) (fun h => by rw [hc] at h; cases h) (by unfold compV ptrC ptrO; rw [hc]; rfl) (List.nil_sublist _) w I
  · try simp only [Gx.nb] at hsmall
    refine skip (pN (sg (co (Ev.buildS (fs := _) (places := [(0, 1), (1, 1)]) z185 rfl Tryz.underlying185 zk .nil Fills.nil) ?_)))
    refine cons (box (E := eRuleRules) (.t rfl) (fun b1 => ?_))
    refine asn rfl (nP (seq (sg (mv rfl (co (Ev.len Tryz.underlying139 (.t rfl) zf) ?_)))))
    refine co (Ev.move (.c (v := I 0) rfl)) ?_
    refine nP (block (takeNil (ovE nilSl) 187 ?_))
    refine takeNil eMatch 111 ?_
    refine lp (X := Int × OV × OV × (List OV) × (List Res) × (Nat → Nat)) (fun x : Int × OV × OV × (List OV) × (List Res) × (Nat → Nat) => (0 ≤ x.1 ∧ x.1 ≤ l.length) ∧ ((x.2.2.2.1.length : Int) = x.1) ∧ ((l.take x.1.toNat).all okM = true) ∧ (∀ w1 : World, (∀ r ∈ x.2.2.2.2.1, r.A w1) → ∀ q : Nat, (q : Int) < x.1 → IsSl (ovE nilFn) w1 (x.2.2.2.1.getD q nilSl).v (clos (l.getD q eMatch.zero) (x.2.2.2.2.2 q)) ∧ PtsTo eMatch w1 (x.2.2.2.2.2 q) 0 (l.getD q eMatch.zero))) (fun x : Int × OV × OV × (List OV) × (List Res) × (Nat → Nat) => [dz, (4, true, .pointer (some ⟨b1, 0, none⟩)), (13, true, u), (14, true, I l.length), (15, true, I x.1)]) (fun x : Int × OV × OV × (List OV) × (List Res) × (Nat → Nat) => (x.2.2.2.2.1 ++ [OwnS x.2.1.v eMatch (l.take x.1.toNat) 111, OwnS x.2.2.1.v (ovE nilSl) x.2.2.2.1 187, Var b1 eRuleRules ⟨x.2.1, x.2.2.1⟩ 185])) (fun x : Int × OV × OV × (List OV) × (List Res) × (Nat → Nat) => (l.length - x.1).toNat) (0, nilSl, nilSl, [], [], fun _ => 0) ⟨?_, ?_, ?_, ?_⟩ (fun x hx => ?_)
    · omega
    · rfl
    · rfl
    · intro w1 _ q hq; exact absurd hq (by show ¬ (q : Int) < 0; omega)
    obtain ⟨i, mo, ao, os, Rs, bs⟩ := x
    obtain ⟨hi, hos, hok, hR⟩ : (0 ≤ i ∧ i ≤ l.length) ∧ ((os.length : Int) = i) ∧ ((l.take i.toNat).all okM = true) ∧ (∀ w1 : World, (∀ r ∈ Rs, r.A w1) → ∀ q : Nat, (q : Int) < i → IsSl (ovE nilFn) w1 (os.getD q nilSl).v (clos (l.getD q eMatch.zero) (bs q)) ∧ PtsTo eMatch w1 (bs q) 0 (l.getD q eMatch.zero)) := hx
    show Sat _ _ [dz, (4, true, .pointer (some ⟨b1, 0, none⟩)), (13, true, u), (14, true, I l.length), (15, true, I i)] (Rs ++ [OwnS mo.v eMatch (l.take i.toNat) 111, OwnS ao.v (ovE nilSl) os 187, Var b1 eRuleRules ⟨mo, ao⟩ 185])
    refine sg (co (Ev.lss_i (.t rfl) (.t rfl)) ?_)
    refine nP (seq ?_)
    first | refine condD rfl (fun hlt => ?_) (fun hge => ?_) | refine cond rfl (fun hlt => ?_) (fun hge => ?_)
    · try simp only [Gx.nb] at hlt
      refine skip (pN (seq (block (sg (co (Ev.indexAddr Tryz.underlying139 ty111 (.t rfl) (.t rfl) zf (fun _ => zo)) ?_)))))
      refine co (Ev.loadS0 ty111 (.t rfl) zf (fun _ => zo)) ?_
      refine cons (alloc z111 (fun b2 => ?_))
      refine cons (stv ty111 (Lens.id _) (.t rfl) (.t rfl) ?_)
      refine nP (seq (sg (co (Ev.ldv ty111 (.t rfl) (Lens.id _)) ?_)))
      refine cons (callv en74 (.cons (.t rfl) .nil) (fun w I => check_ok _ w) ?_)
      refine asn rfl (nP (sg (mv rfl (co (Ev.neq_i (.t rfl) (.c (v := I 0) rfl)) ?_))))
      refine nP ?_
      first | refine condD rfl (fun h2 => ?_) (fun h2 => ?_) | refine cond rfl (fun h2 => ?_) (fun h2 => ?_)
      · have hbad : okM (l.getD i.toNat eMatch.zero) = false := by
          have h3 : decide (ckM (l.getD i.toNat eMatch.zero) = 0) = false := by simpa using h2
          rwa [ckM_zero] at h3
        refine sg (mv rfl (co (Ev.assign (.c (v := (Go.Value.pointer none)) rfl)) ?_))
        refine asn rfl (nP (ret (pR (bR (pR (pR (bR (pR (done rfl (.tmp rfl (.tmp rfl .nil)) (fun w I => ?_))))))))))
        have hc : compE l = 190 := by unfold compE; rw [decide_eq_false (by omega), not_all l i.toNat (by omega) hbad]; rfl
        exact retN (0, []) (fun h => by rw [hc] at h; cases h) (by unfold compV ptrC ptrO; rw [hc]; show tupV [.pointer none, Go.Gx.I (ckM (l.getD i.toNat eMatch.zero))] = _; unfold ckM; rw [hbad]; rfl) (List.nil_sublist _) w I
      · have hokm : okM (l.getD i.toNat eMatch.zero) = true := by
          have h3 : decide (ckM (l.getD i.toNat eMatch.zero) = 0) = true := by simpa using h2
          rwa [ckM_zero] at h3
        refine skip (pN (seq (draw [Var b2 eMatch (l.getD i.toNat eMatch.zero) 111] zk ?_)))
        refine tk 0 rfl (Ev.move (.t rfl)) ?_
        refine tk 1 rfl (Ev.move (.t rfl)) ?_
        refine tk 2 rfl (Ev.nilCheck (.t rfl)) ?_
        refine tk 3 rfl (fA 0 (.t rfl)) ?_
        refine tk 5 rfl (Ev.ldv ty111 (.t rfl) (Lens.id _)) ?_
        refine all [4, 6] zk (by decide) (.cons rfl ?_ (.cons rfl ?_ .nil))
        · refine (opv (Ev.ldv ty139 (.t rfl) SRuleRules.l_matches_) ?_)
          refine hdn (al1 6 rfl ((buildSlice (E := eMatch) Tryz.underlying139 ty111 z111 (.cons (.t rfl) .nil) rfl rfl (fun v3 => ?_))))
          refine hdn (al1 7 rfl ((app (E := eMatch) Tryz.underlying139 ty111 zb111 zs111 (.t rfl) (.t rfl) (fun v4 => ?_) (hby := ⟨by (show _ ≤ 9223372036854775807); first | omega | (simp; done) | (simp; omega), by first | omega | (simp; done) | (simp; omega)⟩))))
          refine hdn (tk 8 rfl (Ev.nilCheck (.t rfl)) ?_)
          refine tk 9 rfl (fA 0 (.t rfl)) ?_
          refine al1 10 rfl ((stv ty139 SRuleRules.l_matches_ (.t rfl) (.t rfl) ?_))
          refine hdn (ovr (pN (draw [Var b2 eMatch (l.getD i.toNat eMatch.zero) 111] zk ?_)))
          refine tk 0 rfl (Ev.move (.t rfl)) ?_
          refine tk 1 rfl (Ev.move (.t rfl)) ?_
          refine tk 2 rfl (Ev.nilCheck (.t rfl)) ?_
          refine tk 3 rfl (fA 1 (.t rfl)) ?_
          refine tk 5 rfl (Ev.ldv ty111 (.t rfl) (Lens.id _)) ?_
          refine all [4, 6] zk (by decide) (.cons rfl ?_ (.cons rfl ?_ .nil))
          · refine (opv (Ev.ldv ty183 (.t rfl) SRuleRules.l_asked) ?_)
            refine hdn (al1 6 rfl ((calln (X := OV × Nat) (fun _ => True) (fun x => x.1.v) (fun x => [OwnS x.1.v (ovE nilFn) (clos (l.getD i.toNat eMatch.zero) x.2) 238, Var x.2 eMatch (l.getD i.toNat eMatch.zero) 111]) en75 (.cons (.t rfl) .nil) (fun w I => compiled_ok _ w) (fun x1 _ => ?_))))
            refine hdn (al1 7 rfl ((buildSlice (E := (ovE nilSl)) Tryz.underlying183 ty187 z187 (.cons (.t rfl) .nil) rfl rfl (fun v5 => ?_))))
            refine hdn (al1 8 rfl ((app (E := (ovE nilSl)) Tryz.underlying183 ty187 zb187 zs187 (.t rfl) (.t rfl) (fun v6 => ?_) (hby := ⟨by (show _ ≤ 9223372036854775807); first | omega | (simp; done) | (simp; omega), by first | omega | (simp; done) | (simp; omega)⟩))))
            refine hdn (tk 9 rfl (Ev.nilCheck (.t rfl)) ?_)
            refine tk 10 rfl (fA 1 (.t rfl)) ?_
            refine al1 11 rfl ((stv ty183 SRuleRules.l_asked (.t rfl) (.t rfl) ?_))
            refine hdn (ovr (bN (pN (region (co (Ev.add_i (.t rfl) (.c (v := I 1) rfl) (fun _ => zo)) ?_)))))
            refine mv rfl (nP (nx (X := Int × OV × OV × (List OV) × (List Res) × (Nat → Nat)) (i + 1, _, _, os ++ [x1.1], OwnS x1.1.v (ovE nilFn) (clos (l.getD i.toNat eMatch.zero) x1.2) 238 :: Var x1.2 eMatch (l.getD i.toNat eMatch.zero) 111 :: Rs, fun q => if q = i.toNat then x1.2 else bs q) ⟨?_, ?_, ?_, ?_⟩ ?_ (hL := (by dsimp only; rw [take_snoc l i hi.1 (by omega) eMatch.zero]; repeat first | exact List.Sublist.refl _ | apply List.Sublist.cons_cons | apply List.Sublist.cons))))
            · try dsimp only
              omega
            · try dsimp only
              simp; omega
            · try dsimp only
              exact all_snoc l i hi.1 (by omega) hok hokm
            · try dsimp only
              intro w1 hw q hq
              by_cases e : q = i.toNat
              · subst e
                have e1 : (os ++ [x1.1]).getD i.toNat nilSl = x1.1 := by
                  have : os.length = i.toNat := by omega
                  simp [List.getD, ← this]
                rw [if_pos rfl]
                show IsSl _ _ ((os ++ [x1.1]).getD i.toNat nilSl).v _ ∧ _
                rw [e1]
                exact ⟨IsSl.of_own (hw _ List.mem_cons_self), pts_of_block (hw _ (List.mem_cons_of_mem _ List.mem_cons_self))⟩
              · have e1 : (os ++ [x1.1]).getD q nilSl = os.getD q nilSl := by
                  have : q < os.length := by omega
                  simp [List.getD, List.getElem?_append, this]
                rw [if_neg e]
                show IsSl _ _ ((os ++ [x1.1]).getD q nilSl).v _ ∧ _
                rw [e1]
                exact hR w1 (fun r hr => hw r (List.mem_cons_of_mem _ (List.mem_cons_of_mem _ hr))) q (by omega)
            · try dsimp only
              omega
          · refine (calln (X := OV × Nat) (fun _ => True) (fun x => x.1.v) (fun x => [OwnS x.1.v (ovE nilFn) (clos (l.getD i.toNat eMatch.zero) x.2) 238, Var x.2 eMatch (l.getD i.toNat eMatch.zero) 111]) en75 (.cons (.t rfl) .nil) (fun w I => compiled_ok _ w) (fun x1 _ => ?_))
            refine hdn (all [4, 7] zk (by decide) (.cons rfl ?_ (.cons rfl ?_ .nil)))
            · refine (opv (Ev.ldv ty183 (.t rfl) SRuleRules.l_asked) ?_)
              refine hdn (al1 7 rfl ((buildSlice (E := (ovE nilSl)) Tryz.underlying183 ty187 z187 (.cons (.t rfl) .nil) rfl rfl (fun v7 => ?_))))
              refine hdn (al1 8 rfl ((app (E := (ovE nilSl)) Tryz.underlying183 ty187 zb187 zs187 (.t rfl) (.t rfl) (fun v8 => ?_) (hby := ⟨by (show _ ≤ 9223372036854775807); first | omega | (simp; done) | (simp; omega), by first | omega | (simp; done) | (simp; omega)⟩))))
              refine hdn (tk 9 rfl (Ev.nilCheck (.t rfl)) ?_)
              refine tk 10 rfl (fA 1 (.t rfl)) ?_
              refine al1 11 rfl ((stv ty183 SRuleRules.l_asked (.t rfl) (.t rfl) ?_))
              refine hdn (ovr (bN (pN (region (co (Ev.add_i (.t rfl) (.c (v := I 1) rfl) (fun _ => zo)) ?_)))))
              refine mv rfl (nP (nx (X := Int × OV × OV × (List OV) × (List Res) × (Nat → Nat)) (i + 1, _, _, os ++ [x1.1], OwnS x1.1.v (ovE nilFn) (clos (l.getD i.toNat eMatch.zero) x1.2) 238 :: Var x1.2 eMatch (l.getD i.toNat eMatch.zero) 111 :: Rs, fun q => if q = i.toNat then x1.2 else bs q) ⟨?_, ?_, ?_, ?_⟩ ?_ (hL := (by dsimp only; rw [take_snoc l i hi.1 (by omega) eMatch.zero]; repeat first | exact List.Sublist.refl _ | apply List.Sublist.cons_cons | apply List.Sublist.cons))))
              · try dsimp only
                omega
              · try dsimp only
                simp; omega
              · try dsimp only
                exact all_snoc l i hi.1 (by omega) hok hokm
              · try dsimp only
                intro w1 hw q hq
                by_cases e : q = i.toNat
                · subst e
                  have e1 : (os ++ [x1.1]).getD i.toNat nilSl = x1.1 := by
                    have : os.length = i.toNat := by omega
                    simp [List.getD, ← this]
                  rw [if_pos rfl]
                  show IsSl _ _ ((os ++ [x1.1]).getD i.toNat nilSl).v _ ∧ _
                  rw [e1]
                  exact ⟨IsSl.of_own (hw _ List.mem_cons_self), pts_of_block (hw _ (List.mem_cons_of_mem _ List.mem_cons_self))⟩
                · have e1 : (os ++ [x1.1]).getD q nilSl = os.getD q nilSl := by
                    have : q < os.length := by omega
                    simp [List.getD, List.getElem?_append, this]
                  rw [if_neg e]
                  show IsSl _ _ ((os ++ [x1.1]).getD q nilSl).v _ ∧ _
                  rw [e1]
                  exact hR w1 (fun r hr => hw r (List.mem_cons_of_mem _ (List.mem_cons_of_mem _ hr))) q (by omega)
              · try dsimp only
                omega
            · refine (buildSlice (E := (ovE nilSl)) Tryz.underlying183 ty187 z187 (.cons (.t rfl) .nil) rfl rfl (fun v9 => ?_))
              refine hdn (al1 4 rfl ((opv (Ev.ldv ty183 (.t rfl) SRuleRules.l_asked) ?_)))
              refine hdn (al1 8 rfl ((app (E := (ovE nilSl)) Tryz.underlying183 ty187 zb187 zs187 (.t rfl) (.t rfl) (fun v10 => ?_) (hby := ⟨by (show _ ≤ 9223372036854775807); first | omega | (simp; done) | (simp; omega), by first | omega | (simp; done) | (simp; omega)⟩))))
              refine hdn (tk 9 rfl (Ev.nilCheck (.t rfl)) ?_)
              refine tk 10 rfl (fA 1 (.t rfl)) ?_
              refine al1 11 rfl ((stv ty183 SRuleRules.l_asked (.t rfl) (.t rfl) ?_))
              refine hdn (ovr (bN (pN (region (co (Ev.add_i (.t rfl) (.c (v := I 1) rfl) (fun _ => zo)) ?_)))))
              refine mv rfl (nP (nx (X := Int × OV × OV × (List OV) × (List Res) × (Nat → Nat)) (i + 1, _, _, os ++ [x1.1], OwnS x1.1.v (ovE nilFn) (clos (l.getD i.toNat eMatch.zero) x1.2) 238 :: Var x1.2 eMatch (l.getD i.toNat eMatch.zero) 111 :: Rs, fun q => if q = i.toNat then x1.2 else bs q) ⟨?_, ?_, ?_, ?_⟩ ?_ (hL := (by dsimp only; rw [take_snoc l i hi.1 (by omega) eMatch.zero]; repeat first | exact List.Sublist.refl _ | apply List.Sublist.cons_cons | apply List.Sublist.cons))))
              · try dsimp only
                omega
              · try dsimp only
                simp; omega
              · try dsimp only
                exact all_snoc l i hi.1 (by omega) hok hokm
              · try dsimp only
                intro w1 hw q hq
                by_cases e : q = i.toNat
                · subst e
                  have e1 : (os ++ [x1.1]).getD i.toNat nilSl = x1.1 := by
                    have : os.length = i.toNat := by omega
                    simp [List.getD, ← this]
                  rw [if_pos rfl]
                  show IsSl _ _ ((os ++ [x1.1]).getD i.toNat nilSl).v _ ∧ _
                  rw [e1]
                  exact ⟨IsSl.of_own (hw _ List.mem_cons_self), pts_of_block (hw _ (List.mem_cons_of_mem _ List.mem_cons_self))⟩
                · have e1 : (os ++ [x1.1]).getD q nilSl = os.getD q nilSl := by
                    have : q < os.length := by omega
                    simp [List.getD, List.getElem?_append, this]
                  rw [if_neg e]
                  show IsSl _ _ ((os ++ [x1.1]).getD q nilSl).v _ ∧ _
                  rw [e1]
                  exact hR w1 (fun r hr => hw r (List.mem_cons_of_mem _ (List.mem_cons_of_mem _ hr))) q (by omega)
              · try dsimp only
                omega
        · refine (buildSlice (E := eMatch) Tryz.underlying139 ty111 z111 (.cons (.t rfl) .nil) rfl rfl (fun v11 => ?_))
          refine hdn (al1 4 rfl ((opv (Ev.ldv ty139 (.t rfl) SRuleRules.l_matches_) ?_)))
          refine hdn (al1 7 rfl ((app (E := eMatch) Tryz.underlying139 ty111 zb111 zs111 (.t rfl) (.t rfl) (fun v12 => ?_) (hby := ⟨by (show _ ≤ 9223372036854775807); first | omega | (simp; done) | (simp; omega), by first | omega | (simp; done) | (simp; omega)⟩))))
          refine hdn (tk 8 rfl (Ev.nilCheck (.t rfl)) ?_)
          refine tk 9 rfl (fA 0 (.t rfl)) ?_
          refine al1 10 rfl ((stv ty139 SRuleRules.l_matches_ (.t rfl) (.t rfl) ?_))
          refine hdn (ovr (pN (draw [Var b2 eMatch (l.getD i.toNat eMatch.zero) 111] zk ?_)))
          refine tk 0 rfl (Ev.move (.t rfl)) ?_
          refine tk 1 rfl (Ev.move (.t rfl)) ?_
          refine tk 2 rfl (Ev.nilCheck (.t rfl)) ?_
          refine tk 3 rfl (fA 1 (.t rfl)) ?_
          refine tk 5 rfl (Ev.ldv ty111 (.t rfl) (Lens.id _)) ?_
          refine all [4, 6] zk (by decide) (.cons rfl ?_ (.cons rfl ?_ .nil))
          · refine (opv (Ev.ldv ty183 (.t rfl) SRuleRules.l_asked) ?_)
            refine hdn (al1 6 rfl ((calln (X := OV × Nat) (fun _ => True) (fun x => x.1.v) (fun x => [OwnS x.1.v (ovE nilFn) (clos (l.getD i.toNat eMatch.zero) x.2) 238, Var x.2 eMatch (l.getD i.toNat eMatch.zero) 111]) en75 (.cons (.t rfl) .nil) (fun w I => compiled_ok _ w) (fun x1 _ => ?_))))
            refine hdn (al1 7 rfl ((buildSlice (E := (ovE nilSl)) Tryz.underlying183 ty187 z187 (.cons (.t rfl) .nil) rfl rfl (fun v13 => ?_))))
            refine hdn (al1 8 rfl ((app (E := (ovE nilSl)) Tryz.underlying183 ty187 zb187 zs187 (.t rfl) (.t rfl) (fun v14 => ?_) (hby := ⟨by (show _ ≤ 9223372036854775807); first | omega | (simp; done) | (simp; omega), by first | omega | (simp; done) | (simp; omega)⟩))))
            refine hdn (tk 9 rfl (Ev.nilCheck (.t rfl)) ?_)
            refine tk 10 rfl (fA 1 (.t rfl)) ?_
            refine al1 11 rfl ((stv ty183 SRuleRules.l_asked (.t rfl) (.t rfl) ?_))
            refine hdn (ovr (bN (pN (region (co (Ev.add_i (.t rfl) (.c (v := I 1) rfl) (fun _ => zo)) ?_)))))
            refine mv rfl (nP (nx (X := Int × OV × OV × (List OV) × (List Res) × (Nat → Nat)) (i + 1, _, _, os ++ [x1.1], OwnS x1.1.v (ovE nilFn) (clos (l.getD i.toNat eMatch.zero) x1.2) 238 :: Var x1.2 eMatch (l.getD i.toNat eMatch.zero) 111 :: Rs, fun q => if q = i.toNat then x1.2 else bs q) ⟨?_, ?_, ?_, ?_⟩ ?_ (hL := (by dsimp only; rw [take_snoc l i hi.1 (by omega) eMatch.zero]; repeat first | exact List.Sublist.refl _ | apply List.Sublist.cons_cons | apply List.Sublist.cons))))
            · try dsimp only
              omega
            · try dsimp only
              simp; omega
            · try dsimp only
              exact all_snoc l i hi.1 (by omega) hok hokm
            · try dsimp only
              intro w1 hw q hq
              by_cases e : q = i.toNat
              · subst e
                have e1 : (os ++ [x1.1]).getD i.toNat nilSl = x1.1 := by
                  have : os.length = i.toNat := by omega
                  simp [List.getD, ← this]
                rw [if_pos rfl]
                show IsSl _ _ ((os ++ [x1.1]).getD i.toNat nilSl).v _ ∧ _
                rw [e1]
                exact ⟨IsSl.of_own (hw _ List.mem_cons_self), pts_of_block (hw _ (List.mem_cons_of_mem _ List.mem_cons_self))⟩
              · have e1 : (os ++ [x1.1]).getD q nilSl = os.getD q nilSl := by
                  have : q < os.length := by omega
                  simp [List.getD, List.getElem?_append, this]
                rw [if_neg e]
                show IsSl _ _ ((os ++ [x1.1]).getD q nilSl).v _ ∧ _
                rw [e1]
                exact hR w1 (fun r hr => hw r (List.mem_cons_of_mem _ (List.mem_cons_of_mem _ hr))) q (by omega)
            · try dsimp only
              omega
          · refine (calln (X := OV × Nat) (fun _ => True) (fun x => x.1.v) (fun x => [OwnS x.1.v (ovE nilFn) (clos (l.getD i.toNat eMatch.zero) x.2) 238, Var x.2 eMatch (l.getD i.toNat eMatch.zero) 111]) en75 (.cons (.t rfl) .nil) (fun w I => compiled_ok _ w) (fun x1 _ => ?_))
            refine hdn (all [4, 7] zk (by decide) (.cons rfl ?_ (.cons rfl ?_ .nil)))
            · refine (opv (Ev.ldv ty183 (.t rfl) SRuleRules.l_asked) ?_)
              refine hdn (al1 7 rfl ((buildSlice (E := (ovE nilSl)) Tryz.underlying183 ty187 z187 (.cons (.t rfl) .nil) rfl rfl (fun v15 => ?_))))
              refine hdn (al1 8 rfl ((app (E := (ovE nilSl)) Tryz.underlying183 ty187 zb187 zs187 (.t rfl) (.t rfl) (fun v16 => ?_) (hby := ⟨by (show _ ≤ 9223372036854775807); first | omega | (simp; done) | (simp; omega), by first | omega | (simp; done) | (simp; omega)⟩))))
              refine hdn (tk 9 rfl (Ev.nilCheck (.t rfl)) ?_)
              refine tk 10 rfl (fA 1 (.t rfl)) ?_
              refine al1 11 rfl ((stv ty183 SRuleRules.l_asked (.t rfl) (.t rfl) ?_))
              refine hdn (ovr (bN (pN (region (co (Ev.add_i (.t rfl) (.c (v := I 1) rfl) (fun _ => zo)) ?_)))))
              refine mv rfl (nP (nx (X := Int × OV × OV × (List OV) × (List Res) × (Nat → Nat)) (i + 1, _, _, os ++ [x1.1], OwnS x1.1.v (ovE nilFn) (clos (l.getD i.toNat eMatch.zero) x1.2) 238 :: Var x1.2 eMatch (l.getD i.toNat eMatch.zero) 111 :: Rs, fun q => if q = i.toNat then x1.2 else bs q) ⟨?_, ?_, ?_, ?_⟩ ?_ (hL := (by dsimp only; rw [take_snoc l i hi.1 (by omega) eMatch.zero]; repeat first | exact List.Sublist.refl _ | apply List.Sublist.cons_cons | apply List.Sublist.cons))))
              · try dsimp only
                omega
              · try dsimp only
                simp; omega
              · try dsimp only
                exact all_snoc l i hi.1 (by omega) hok hokm
              · try dsimp only
                intro w1 hw q hq
                by_cases e : q = i.toNat
                · subst e
                  have e1 : (os ++ [x1.1]).getD i.toNat nilSl = x1.1 := by
                    have : os.length = i.toNat := by omega
                    simp [List.getD, ← this]
                  rw [if_pos rfl]
                  show IsSl _ _ ((os ++ [x1.1]).getD i.toNat nilSl).v _ ∧ _
                  rw [e1]
                  exact ⟨IsSl.of_own (hw _ List.mem_cons_self), pts_of_block (hw _ (List.mem_cons_of_mem _ List.mem_cons_self))⟩
                · have e1 : (os ++ [x1.1]).getD q nilSl = os.getD q nilSl := by
                    have : q < os.length := by omega
                    simp [List.getD, List.getElem?_append, this]
                  rw [if_neg e]
                  show IsSl _ _ ((os ++ [x1.1]).getD q nilSl).v _ ∧ _
                  rw [e1]
                  exact hR w1 (fun r hr => hw r (List.mem_cons_of_mem _ (List.mem_cons_of_mem _ hr))) q (by omega)
              · try dsimp only
                omega
            · refine (buildSlice (E := (ovE nilSl)) Tryz.underlying183 ty187 z187 (.cons (.t rfl) .nil) rfl rfl (fun v17 => ?_))
              refine hdn (al1 4 rfl ((opv (Ev.ldv ty183 (.t rfl) SRuleRules.l_asked) ?_)))
              refine hdn (al1 8 rfl ((app (E := (ovE nilSl)) Tryz.underlying183 ty187 zb187 zs187 (.t rfl) (.t rfl) (fun v18 => ?_) (hby := ⟨by (show _ ≤ 9223372036854775807); first | omega | (simp; done) | (simp; omega), by first | omega | (simp; done) | (simp; omega)⟩))))
              refine hdn (tk 9 rfl (Ev.nilCheck (.t rfl)) ?_)
              refine tk 10 rfl (fA 1 (.t rfl)) ?_
              refine al1 11 rfl ((stv ty183 SRuleRules.l_asked (.t rfl) (.t rfl) ?_))
              refine hdn (ovr (bN (pN (region (co (Ev.add_i (.t rfl) (.c (v := I 1) rfl) (fun _ => zo)) ?_)))))
              refine mv rfl (nP (nx (X := Int × OV × OV × (List OV) × (List Res) × (Nat → Nat)) (i + 1, _, _, os ++ [x1.1], OwnS x1.1.v (ovE nilFn) (clos (l.getD i.toNat eMatch.zero) x1.2) 238 :: Var x1.2 eMatch (l.getD i.toNat eMatch.zero) 111 :: Rs, fun q => if q = i.toNat then x1.2 else bs q) ⟨?_, ?_, ?_, ?_⟩ ?_ (hL := (by dsimp only; rw [take_snoc l i hi.1 (by omega) eMatch.zero]; repeat first | exact List.Sublist.refl _ | apply List.Sublist.cons_cons | apply List.Sublist.cons))))
              · try dsimp only
                omega
              · try dsimp only
                simp; omega
              · try dsimp only
                exact all_snoc l i hi.1 (by omega) hok hokm
              · try dsimp only
                intro w1 hw q hq
                by_cases e : q = i.toNat
                · subst e
                  have e1 : (os ++ [x1.1]).getD i.toNat nilSl = x1.1 := by
                    have : os.length = i.toNat := by omega
                    simp [List.getD, ← this]
                  rw [if_pos rfl]
                  show IsSl _ _ ((os ++ [x1.1]).getD i.toNat nilSl).v _ ∧ _
                  rw [e1]
                  exact ⟨IsSl.of_own (hw _ List.mem_cons_self), pts_of_block (hw _ (List.mem_cons_of_mem _ List.mem_cons_self))⟩
                · have e1 : (os ++ [x1.1]).getD q nilSl = os.getD q nilSl := by
                    have : q < os.length := by omega
                    simp [List.getD, List.getElem?_append, this]
                  rw [if_neg e]
                  show IsSl _ _ ((os ++ [x1.1]).getD q nilSl).v _ ∧ _
                  rw [e1]
                  exact hR w1 (fun r hr => hw r (List.mem_cons_of_mem _ (List.mem_cons_of_mem _ hr))) q (by omega)
              · try dsimp only
                omega
    · try simp only [Gx.nb] at hge
      refine exit (pX (pX (bX (pN (sg (mv rfl (asn rfl (co (Ev.assign (.c (v := I 0) rfl)) ?_))))))))
      refine nP (ret (done rfl (.tmp rfl (.tmp rfl .nil)) (fun w I => ?_)))
      have et : l.take i.toNat = l := List.take_of_length_le (by omega)
      rw [et] at hok I
      have hc : compE l = 0 := by unfold compE; rw [decide_eq_false (by omega), hok]; rfl
      refine retN (b1, Rs ++ [OwnS mo.v eMatch l 111, OwnS ao.v (ovE nilSl) os 187, Var b1 eRuleRules ⟨mo, ao⟩ 185]) (fun _ w1 hw => ?_) (by unfold compV ptrC ptrO; rw [hc]; rfl) (List.Sublist.refl _) w I
      refine ⟨mo, ao, os, bs, pts_of_block (hw _ (List.mem_append_right _ (List.mem_cons_of_mem _ (List.mem_cons_of_mem _ List.mem_cons_self)))), IsSl.of_own (hw _ (List.mem_append_right _ List.mem_cons_self)), IsSl.of_own (hw _ (List.mem_append_right _ (List.mem_cons_of_mem _ List.mem_cons_self))), by omega, fun q hq => hR w1 (fun r hr => hw r (List.mem_append_left _ hr)) q (by omega)⟩
def firstF (q : SMatch → Bool) : List SMatch → Int → Int
  | [], _ => -1
  | m :: l, k => bif q m then k else firstF q l (k + 1)
theorem firstF_step (q : SMatch → Bool) (l : List SMatch) (i : Nat) (k : Int) (h : i < l.length) : firstF q (l.drop i) k = bif q (l.getD i eMatch.zero) then k else firstF q (l.drop (i + 1)) (k + 1) := by
  rw [List.drop_eq_getElem_cons h]
  simp [firstF, List.getD, h]
theorem en86 : Gx.Enters Tryz.prog 86 := Gx.Enters.mk' zk
theorem first_ok (b : Nat) (l : List SMatch) (n : Int) (h : SHeader) (w : World) (hR : RulesAt w b l) : Calls Tryz.prog 56 #[.pointer (some ⟨b, 0, none⟩), I n, eHeader.val h] w (RetV w (I (firstF (fun m => metB m n h) l 0))) := by
  obtain ⟨mo, ao, os, bs, hr, hmo, hao, hol, hcl⟩ := hR
  have hml := hmo.le
  have hal := hao.le
  refine en0 26 Tryz.func56 ?_
  refine sg (cons (box (E := eHeader) (.t rfl) (fun b1 => ?_)))
  refine co (Ev.assign (.c (v := I 0) rfl)) ?_
  refine nP (seq (sg (mv rfl (co (Ev.eql_p Tryz.underlying123 (.t rfl) (.c rfl)) ?_))))
  refine nP (condF rfl (rfl) ?_)
  refine skip (pN (seq (sg (mv rfl (co (Ev.nilCheck (.t rfl)) ?_)))))
  refine co (fA 1 (.t rfl)) ?_
  refine co (Ev.load ty183 (.t rfl) (ptsL (fun w I => hr.keep I.keeps) SRuleRules.l_asked)) ?_
  refine co (Ev.len Tryz.underlying183 (.t rfl) (fun w I => hao.keep0 I.keeps)) ?_
  refine co (Ev.move (.c (v := I 0) rfl)) ?_
  refine nP (block (lp (X := Int) (fun x : Int => (0 ≤ x ∧ x ≤ l.length) ∧ (firstF (fun m => metB m n h) (l.drop x.toNat) x = firstF (fun m => metB m n h) l 0)) (fun x : Int => [dz, (1, true, I n), (5, true, .pointer (some ⟨b1, 0, none⟩)), (14, true, ao.v), (15, true, I os.length), (16, true, I x)]) (fun x : Int => [Var b1 eHeader h 93]) (fun x : Int => (l.length - x).toNat) (0) ⟨?_, ?_⟩ (fun x hx => ?_)))
  · omega
  · rfl
  obtain ⟨i, rfl⟩ : ∃ y, y = x := ⟨x, rfl⟩
  obtain ⟨hi, hf⟩ : (0 ≤ i ∧ i ≤ l.length) ∧ (firstF (fun m => metB m n h) (l.drop i.toNat) i = firstF (fun m => metB m n h) l 0) := hx
  show Sat _ _ [dz, (1, true, I n), (5, true, .pointer (some ⟨b1, 0, none⟩)), (14, true, ao.v), (15, true, I os.length), (16, true, I i)] [Var b1 eHeader h 93]
  refine sg (co (Ev.lss_i (.t rfl) (.t rfl)) ?_)
  refine nP (seq ?_)
  first | refine condD rfl (fun hlt => ?_) (fun hge => ?_) | refine cond rfl (fun hlt => ?_) (fun hge => ?_)
  · try simp only [Gx.nb] at hlt
    refine skip (pN (seq (block (sg (mv rfl (co (Ev.indexAddr Tryz.underlying183 ty187 (.t rfl) (.t rfl) (fun w I => hao.keep0 I.keeps) (fun _ => zo)) ?_))))))
    refine co (Ev.loadS0 ty187 (.t rfl) (fun w I => hao.keep0 I.keeps) (fun _ => zo)) ?_
    refine asn rfl (asn rfl (nP (sg ?_)))
    have hck := hcl i.toNat (by omega)
    refine mv rfl (mv rfl (cons (callv en86 (.cons (.t rfl) (.cons (.t rfl) (.cons (.t rfl) .nil))) (fun w I => meetsL_ok _ _ n h _ _ w (hck.1.keep0 I.keeps) (hck.2.keep I.keeps) (ptsVar zm (Lens.id _) w I)) ?_)))
    refine nP ?_
    first | refine condD rfl (fun h2 => ?_) (fun h2 => ?_) | refine cond rfl (fun h2 => ?_) (fun h2 => ?_)
    · refine sg (mv rfl (asn rfl (nP (ret (bR (pR (pR (bR (pR (done rfl (.tmp rfl .nil) (retE ?_)))))))))))
      rw [← hf, firstF_step _ l i.toNat i (by omega)]
      have h3 : metB (l.getD i.toNat eMatch.zero) n h = true := by simpa using h2
      rw [h3]; rfl
    · refine skip (bN (pN (region (co (Ev.add_i (.t rfl) (.c (v := I 1) rfl) (fun _ => zo)) ?_))))
      refine mv rfl (nP (nx (X := Int) (i + 1) ⟨?_, ?_⟩ ?_))
      · try dsimp only
        omega
      · try dsimp only
        rw [← hf, firstF_step _ l i.toNat i (by omega)]
        have e : (i + 1).toNat = i.toNat + 1 := by omega
        rw [e]
        have h3 : metB (l.getD i.toNat eMatch.zero) n h = false := by simpa using h2
        rw [h3]; rfl
      · try dsimp only
        omega
  · try simp only [Gx.nb] at hge
    refine exit (pX (pX (bX (pN (sg (co (Ev.assign (.c (v := I (-1)) rfl)) ?_))))))
    refine nP (ret (done rfl (.tmp rfl .nil) (retE ?_)))
    rw [List.drop_eq_nil_of_le (by omega)] at hf
    rw [← hf]; rfl
end Go.Proofs.YtakmoeladkajdaaGreat
namespace Go.Proofs.YtakmoeladkajdaaGreat.Tri
open Go Go.Gx
def lcp : List Bool → List Bool → List Bool
  | a :: x, b :: y => if a = b then a :: lcp x y else []
  | _, _ => []
theorem lcp_left : ∀ x y, lcp x y <+: x
  | [], _ => by simp [lcp]
  | a :: x, [] => by simp [lcp]
  | a :: x, b :: y => by
    unfold lcp
    split
    · rw [List.cons_prefix_cons]; exact ⟨rfl, lcp_left x y⟩
    · exact List.nil_prefix
theorem lcp_comm : ∀ x y, lcp x y = lcp y x
  | [], [] => rfl
  | [], _ :: _ => rfl
  | _ :: _, [] => rfl
  | a :: x, b :: y => by
    unfold lcp
    by_cases h : a = b
    · rw [if_pos h, if_pos h.symm, lcp_comm x y, h]
    · rw [if_neg h, if_neg (fun e => h e.symm)]
theorem lcp_right (x y : List Bool) : lcp x y <+: y := by rw [lcp_comm]; exact lcp_left y x
theorem lcp_max : ∀ c x y : List Bool, c <+: x → c <+: y → c <+: lcp x y
  | [], _, _, _, _ => List.nil_prefix
  | c :: cs, [], _, h, _ => by simp at h
  | c :: cs, _ :: _, [], _, h => by simp at h
  | c :: cs, a :: x, b :: y, h1, h2 => by
    rw [List.cons_prefix_cons] at h1 h2
    unfold lcp
    rw [if_pos (h1.1.symm.trans h2.1), List.cons_prefix_cons]
    exact ⟨h1.1, lcp_max cs x y h1.2 h2.2⟩
theorem lcp_split : ∀ x y : List Bool, lcp x y ≠ x → lcp x y ≠ y → ∃ b, lcp x y ++ [b] <+: x ∧ lcp x y ++ [!b] <+: y
  | [], y, h, _ => absurd (by simp [lcp]) h
  | a :: x, [], _, h => absurd (by simp [lcp]) h
  | a :: x, b :: y, h1, h2 => by
    unfold lcp at h1 h2 ⊢
    by_cases h : a = b
    · rw [if_pos h] at h1 h2 ⊢
      subst h
      obtain ⟨c, k1, k2⟩ := lcp_split x y (fun e => h1 (by rw [e])) (fun e => h2 (by rw [e]))
      exact ⟨c, by simpa [List.cons_prefix_cons] using k1, by simpa [List.cons_prefix_cons] using k2⟩
    · rw [if_neg h]
      refine ⟨a, by simp, ?_⟩
      have : (!a) = b := by cases a <;> cases b <;> simp_all
      rw [this]
      simp
def nb (x y : List Bool) : Bool := y.getD x.length false
theorem pre_step {x y : List Bool} (h : x <+: y) (hne : x ≠ y) : x ++ [nb x y] <+: y := by
  obtain ⟨z, rfl⟩ := h
  cases z with
  | nil => simp at hne
  | cons b z =>
    have : nb x (x ++ b :: z) = b := by simp [nb, List.getD]
    rw [this]
    exact ⟨z, by simp⟩
theorem nb_of {x y : List Bool} {b : Bool} (h : x ++ [b] <+: y) : nb x y = b := by
  obtain ⟨z, rfl⟩ := h
  simp [nb, List.getD]
theorem pre_len {x y : List Bool} (h : x <+: y) (hl : y.length ≤ x.length) : x = y := List.IsPrefix.eq_of_length_le h hl
theorem pre_snoc {x y : List Bool} {b : Bool} (h : x ++ [b] <+: y) : x <+: y := (List.prefix_append x [b]).trans h
theorem pre_two {x y z : List Bool} (hx : x <+: z) (hy : y <+: z) : x <+: y ∨ y <+: x := by
  rcases Nat.le_total x.length y.length with h | h
  · exact .inl (List.prefix_of_prefix_length_le hx hy h)
  · exact .inr (List.prefix_of_prefix_length_le hy hx h)
theorem not_both {x y z : List Bool} {b : Bool} (h1 : x ++ [b] <+: y) (h2 : x ++ [!b] <+: z) (h : y <+: z) : False := by
  have e1 := nb_of (h1.trans h)
  have e2 := nb_of h2
  rw [e1] at e2
  cases b <;> simp at e2
def ltB : List Bool → List Bool → Bool
  | [], [] => false
  | [], _ :: _ => true
  | _ :: _, [] => false
  | a :: x, b :: y => (!a && b) || (a == b && ltB x y)
theorem ltB_irr : ∀ x, ltB x x = false
  | [] => rfl
  | a :: x => by simp [ltB, ltB_irr x]
theorem ltB_pre : ∀ x y : List Bool, x <+: y → x ≠ y → ltB x y = true
  | [], [], _, h => absurd rfl h
  | [], _ :: _, _, _ => rfl
  | _ :: _, [], h, _ => by simp at h
  | a :: x, b :: y, h, hne => by
    rw [List.cons_prefix_cons] at h
    obtain ⟨rfl, h⟩ := h
    have := ltB_pre x y h (fun e => hne (by rw [e]))
    simp [ltB, this]
theorem ltB_split : ∀ c x y : List Bool, c ++ [false] <+: x → c ++ [true] <+: y → ltB x y = true
  | [], x, y, h1, h2 => by
    obtain ⟨u, rfl⟩ := h1
    obtain ⟨v, rfl⟩ := h2
    simp [ltB]
  | c :: cs, x, y, h1, h2 => by
    cases x with
    | nil => simp at h1
    | cons a x =>
      cases y with
      | nil => simp at h2
      | cons b y =>
        rw [List.cons_append, List.cons_prefix_cons] at h1 h2
        have := ltB_split cs x y h1.2 h2.2
        simp [ltB, ← h1.1, ← h2.1, this]
inductive Tr (κ : Type) where
  | nil : Tr κ
  | node : κ → Int → Bool → Tr κ → Tr κ → Tr κ
def Tr.isNil {κ : Type} : Tr κ → Bool
  | .nil => true
  | _ => false
def Tr.ents {κ : Type} : Tr κ → List (κ × Int)
  | .nil => []
  | .node p v h l r => (if h = true then [(p, v)] else []) ++ (l.ents ++ r.ents)
def Tr.shp {κ : Type} : Tr κ → List κ
  | .nil => []
  | .node p _ _ l r => p :: (l.shp ++ r.shp)
def Tr.WF {κ : Type} (ok : κ → Prop) (bs : κ → List Bool) : List Bool → Tr κ → Prop
  | _, .nil => True
  | c, .node p v h l r => ok p ∧ c <+: bs p ∧ l.WF ok bs (bs p ++ [false]) ∧ r.WF ok bs (bs p ++ [true]) ∧ (h = false → v = 0 ∧ l ≠ .nil ∧ r ≠ .nil)
section
variable {κ : Type} {ok : κ → Prop} {bs : κ → List Bool}
theorem Tr.WF.mono {c d : List Bool} (h : d <+: c) : ∀ {t : Tr κ}, t.WF ok bs c → t.WF ok bs d
  | .nil, _ => trivial
  | .node _ _ _ _ _, ⟨h1, h2, h3⟩ => ⟨h1, h.trans h2, h3⟩
theorem Tr.WF.shp_in : ∀ {t : Tr κ} {c : List Bool}, t.WF ok bs c → ∀ q ∈ t.shp, ok q ∧ c <+: bs q
  | .nil, _, _, q, hq => by simp [shp] at hq
  | .node p v h l r, c, ⟨h1, h2, h3, h4, _⟩, q, hq => by
    simp only [shp, List.mem_cons, List.mem_append] at hq
    rcases hq with rfl | hq | hq
    · exact ⟨h1, h2⟩
    · have := h3.shp_in q hq
      exact ⟨this.1, h2.trans (pre_snoc this.2)⟩
    · have := h4.shp_in q hq
      exact ⟨this.1, h2.trans (pre_snoc this.2)⟩
theorem Tr.ents_shp : ∀ (t : Tr κ) (x : κ × Int), x ∈ t.ents → x.1 ∈ t.shp
  | .nil, x, h => by simp [ents] at h
  | .node p v h l r, x, hx => by
    simp only [ents, List.mem_append] at hx
    simp only [shp, List.mem_cons, List.mem_append]
    rcases hx with hx | hx | hx
    · split at hx
      · simp at hx; exact .inl (by rw [hx])
      · simp at hx
    · exact .inr (.inl (ents_shp l x hx))
    · exact .inr (.inr (ents_shp r x hx))
theorem Tr.WF.ents_in {t : Tr κ} {c : List Bool} (h : t.WF ok bs c) (x : κ × Int) (hx : x ∈ t.ents) : ok x.1 ∧ c <+: bs x.1 := h.shp_in _ (t.ents_shp x hx)
theorem Tr.WF.ne_nil : ∀ {t : Tr κ} {c : List Bool}, t.WF ok bs c → t ≠ .nil → t.ents ≠ []
  | .nil, _, _, h => absurd rfl h
  | .node p v h l r, c, ⟨_, _, h3, h4, h5⟩, _ => by
    cases h with
    | true => simp [ents]
    | false =>
      obtain ⟨_, h6, _⟩ := h5 rfl
      have := h3.ne_nil h6
      simp [ents, this]
theorem Tr.WF.shp_sorted : ∀ {t : Tr κ} {c : List Bool}, t.WF ok bs c → t.shp.Pairwise (fun a b => ltB (bs a) (bs b) = true)
  | .nil, _, _ => List.Pairwise.nil
  | .node p v h l r, c, ⟨_, h2, h3, h4, _⟩ => by
    simp only [shp]
    have low : ∀ (b : Bool) (q : κ), bs p ++ [b] <+: bs q → ltB (bs p) (bs q) = true := fun b q hq => ltB_pre _ _ (pre_snoc hq) (fun e => by
      have := hq.length_le
      rw [← e] at this
      simp at this
      omega)
    refine List.pairwise_cons.2 ⟨fun q hq => ?_, List.pairwise_append.2 ⟨h3.shp_sorted, h4.shp_sorted, fun a ha b hb => ltB_split _ _ _ (h3.shp_in a ha).2 (h4.shp_in b hb).2⟩⟩
    rcases List.mem_append.1 hq with hq | hq
    · exact low _ q (h3.shp_in q hq).2
    · exact low _ q (h4.shp_in q hq).2
theorem Tr.ents_sub : ∀ (t : Tr κ), (t.ents.map (·.1)).Sublist t.shp
  | .nil => List.Sublist.refl _
  | .node p v h l r => by
    simp only [ents, shp, List.map_append]
    have := (ents_sub l).append (ents_sub r)
    cases h with
    | true => simpa using this.cons_cons p
    | false => simpa using this.cons p
theorem Tr.WF.ents_sorted {t : Tr κ} {c : List Bool} (h : t.WF ok bs c) : t.ents.Pairwise (fun a b => ltB (bs a.1) (bs b.1) = true) :=
  List.pairwise_map.1 (h.shp_sorted.sublist t.ents_sub)
structure KeyLaw (ok : κ → Prop) (bs : κ → List Bool) (both : κ → κ → κ) (bit : κ → κ → Bool) : Prop where
  inj : ∀ p q, ok p → ok q → bs p = bs q → p = q
  both : ∀ p q, ok p → ok q → ok (both p q) ∧ bs (both p q) = lcp (bs p) (bs q)
  bit : ∀ p q, ok p → ok q → bs p <+: bs q → bs p ≠ bs q → bit p q = nb (bs p) (bs q)
variable [DecidableEq κ]
def Tr.put (both : κ → κ → κ) (bit : κ → κ → Bool) (p : κ) (v : Int) : Tr κ → Tr κ × Bool
  | .nil => (.node p v true .nil .nil, true)
  | .node q u h l r =>
    if q = p then (.node p v true l r, !h)
    else if both q p = q then
      if bit q p = true then (.node q u h l (r.put both bit p v).1, (r.put both bit p v).2) else (.node q u h (l.put both bit p v).1 r, (l.put both bit p v).2)
    else if both q p = p then
      (if bit p q = true then .node p v true .nil (.node q u h l r) else .node p v true (.node q u h l r) .nil, true)
    else (if bit (both q p) p = true then .node (both q p) 0 false (.node q u h l r) (.node p v true .nil .nil) else .node (both q p) 0 false (.node p v true .nil .nil) (.node q u h l r), true)
def Tr.bare : Tr κ → Tr κ
  | .nil => .nil
  | .node p v h l r => if h = true ∨ (l.isNil = false ∧ r.isNil = false) then .node p v h l r else if l.isNil = false then l else r
def Tr.cut (bit : κ → κ → Bool) (p : κ) : Tr κ → Tr κ
  | .nil => .nil
  | .node q u h l r => if q = p then (Tr.node q 0 false l r).bare else if bit q p = true then (Tr.node q u h l (r.cut bit p)).bare else (Tr.node q u h (l.cut bit p) r).bare
variable {both : κ → κ → κ} {bit : κ → κ → Bool}
theorem KeyLaw.ways (K : KeyLaw ok bs both bit) {q p : κ} (hq : ok q) (hp : ok p) (hne : q ≠ p) :
    (both q p = q ∧ bs q ++ [bit q p] <+: bs p) ∨ (both q p ≠ q ∧ both q p = p ∧ bs p ++ [bit p q] <+: bs q) ∨
    (both q p ≠ q ∧ both q p ≠ p ∧ ok (both q p) ∧ bs (both q p) = lcp (bs q) (bs p) ∧ bit (both q p) q = !(bit (both q p) p) ∧ bs (both q p) ++ [!(bit (both q p) p)] <+: bs q ∧ bs (both q p) ++ [bit (both q p) p] <+: bs p) := by
  obtain ⟨h1, h2⟩ := K.both q p hq hp
  have hbne : bs q ≠ bs p := fun e => hne (K.inj _ _ hq hp e)
  by_cases e1 : both q p = q
  · refine .inl ⟨e1, ?_⟩
    have hpre : bs q <+: bs p := by
      rw [e1] at h2
      rw [h2]
      exact lcp_right _ _
    rw [K.bit q p hq hp hpre hbne]
    exact pre_step hpre hbne
  · by_cases e2 : both q p = p
    · refine .inr (.inl ⟨e1, e2, ?_⟩)
      have hpre : bs p <+: bs q := by
        rw [e2] at h2
        rw [h2]
        exact lcp_left _ _
      rw [K.bit p q hp hq hpre hbne.symm]
      exact pre_step hpre hbne.symm
    · have n1 : lcp (bs q) (bs p) ≠ bs q := fun e => e1 (K.inj _ _ h1 hq (h2.trans e))
      have n2 : lcp (bs q) (bs p) ≠ bs p := fun e => e2 (K.inj _ _ h1 hp (h2.trans e))
      obtain ⟨b, g1, g2⟩ := lcp_split _ _ n1 n2
      rw [← h2] at g1 g2 n1 n2
      have b1 := K.bit _ q h1 hq (pre_snoc g1) n1
      have b2 := K.bit _ p h1 hp (pre_snoc g2) n2
      rw [nb_of g1] at b1
      rw [nb_of g2] at b2
      refine .inr (.inr ⟨e1, e2, h1, h2, ?_, ?_, ?_⟩)
      · rw [b1, b2, Bool.not_not]
      · rw [b2, Bool.not_not]; exact g1
      · rw [b2]; exact g2
theorem snoc_ne {x y : List Bool} {b : Bool} (h : x ++ [b] <+: y) : x ≠ y := fun e => by
  have := h.length_le
  rw [← e] at this
  simp at this
  omega
theorem KeyLaw.put_spec (K : KeyLaw ok bs both bit) {p : κ} (hp : ok p) (v : Int) : ∀ (t : Tr κ) (c : List Bool), t.WF ok bs c → c <+: bs p →
    (t.put both bit p v).1.WF ok bs c ∧ (t.put both bit p v).1 ≠ .nil ∧ (∀ x, x ∈ (t.put both bit p v).1.ents ↔ (x = (p, v) ∨ (x ∈ t.ents ∧ x.1 ≠ p))) ∧ ((t.put both bit p v).2 = true ↔ ∀ x ∈ t.ents, x.1 ≠ p)
  | .nil, c, _, hc => by
    refine ⟨⟨hp, hc, trivial, trivial, (fun h => by cases h)⟩, (fun h => by cases h), fun x => ?_, ?_⟩
    · simp [Tr.put, Tr.ents]
    · simp [Tr.put, Tr.ents]
  | .node q u h l r, c, hw, hc => by
    have hw' := hw
    obtain ⟨hq, h2, h3, h4, h5⟩ := hw
    have inl : ∀ x ∈ l.ents, bs q ++ [false] <+: bs x.1 := fun x hx => (h3.ents_in x hx).2
    have inr : ∀ x ∈ r.ents, bs q ++ [true] <+: bs x.1 := fun x hx => (h4.ents_in x hx).2
    by_cases e : q = p
    · subst e
      have nl : ∀ x ∈ l.ents, x.1 ≠ q := fun x hx e => snoc_ne (inl x hx) (by rw [e])
      have nr : ∀ x ∈ r.ents, x.1 ≠ q := fun x hx e => snoc_ne (inr x hx) (by rw [e])
      have hput : Tr.put both bit q v (.node q u h l r) = (.node q v true l r, !h) := by rw [Tr.put, if_pos rfl]
      rw [hput]
      refine ⟨⟨hq, h2, h3, h4, (fun h => by cases h)⟩, (fun h => by cases h), fun x => ?_, ?_⟩
      · simp only [Tr.ents, if_true, List.mem_append, List.mem_singleton]
        constructor
        · rintro (h | h | h)
          · exact .inl h
          · exact .inr ⟨.inr (.inl h), nl x h⟩
          · exact .inr ⟨.inr (.inr h), nr x h⟩
        · rintro (h | ⟨h | h | h, hn⟩)
          · exact .inl h
          · split at h
            · simp only [List.mem_singleton] at h
              rw [h] at hn
              exact absurd rfl hn
            · simp at h
          · exact .inr (.inl h)
          · exact .inr (.inr h)
      · simp only [Tr.ents, List.mem_append]
        constructor
        · intro hh x hx
          have hf : h = false := by simpa using hh
          subst hf
          rcases hx with hx | hx | hx
          · simp at hx
          · exact nl x hx
          · exact nr x hx
        · intro hh
          cases h with
          | false => rfl
          | true => exact absurd rfl (hh (q, u) (.inl (by simp)))
    · have epq : ∀ x : κ × Int, x ∈ (if h = true then [(q, u)] else []) → x.1 ≠ p := fun x hx => by
        split at hx
        · simp only [List.mem_singleton] at hx; rw [hx]; exact e
        · simp at hx
      rcases K.ways hq hp e with ⟨e1, e2⟩ | ⟨e0, e1, e2⟩ | ⟨e0, e1, e2, e3, e4, e5, e6⟩
      · cases hb : bit q p with
        | true =>
          rw [hb] at e2
          have hput : Tr.put both bit p v (.node q u h l r) = (.node q u h l (r.put both bit p v).1, (r.put both bit p v).2) := by rw [Tr.put, if_neg e, if_pos e1, if_pos hb]
          rw [hput]
          obtain ⟨g1, g2, g3, g4⟩ := K.put_spec hp v r _ h4 e2
          refine ⟨⟨hq, h2, h3, g1, fun hh => ⟨(h5 hh).1, (h5 hh).2.1, g2⟩⟩, (fun h => by cases h), fun x => ?_, ?_⟩
          · have nl : x ∈ l.ents → x.1 ≠ p := fun hx e => not_both (b := false) (inl x hx) e2 (by rw [e]; exact List.prefix_refl _)
            simp only [Tr.ents, List.mem_append, g3]
            constructor
            · rintro (h | h | h | h)
              · exact .inr ⟨.inl h, epq x h⟩
              · exact .inr ⟨.inr (.inl h), nl h⟩
              · exact .inl h
              · exact .inr ⟨.inr (.inr h.1), h.2⟩
            · rintro (h | ⟨h | h | h, hn⟩)
              · exact .inr (.inr (.inl h))
              · exact .inl h
              · exact .inr (.inl h)
              · exact .inr (.inr (.inr ⟨h, hn⟩))
          · rw [g4]
            simp only [Tr.ents, List.mem_append]
            constructor
            · rintro hh x (hx | hx | hx)
              · exact epq x hx
              · exact fun e => not_both (b := false) (inl x hx) e2 (by rw [e]; exact List.prefix_refl _)
              · exact hh x hx
            · exact fun hh x hx => hh x (.inr (.inr hx))
        | false =>
          rw [hb] at e2
          have hput : Tr.put both bit p v (.node q u h l r) = (.node q u h (l.put both bit p v).1 r, (l.put both bit p v).2) := by rw [Tr.put, if_neg e, if_pos e1, if_neg (by rw [hb]; exact Bool.false_ne_true)]
          rw [hput]
          obtain ⟨g1, g2, g3, g4⟩ := K.put_spec hp v l _ h3 e2
          refine ⟨⟨hq, h2, g1, h4, fun hh => ⟨(h5 hh).1, g2, (h5 hh).2.2⟩⟩, (fun h => by cases h), fun x => ?_, ?_⟩
          · have nr : x ∈ r.ents → x.1 ≠ p := fun hx e => not_both (b := true) (inr x hx) e2 (by rw [e]; exact List.prefix_refl _)
            simp only [Tr.ents, List.mem_append, g3]
            constructor
            · rintro (h | (h | h) | h)
              · exact .inr ⟨.inl h, epq x h⟩
              · exact .inl h
              · exact .inr ⟨.inr (.inl h.1), h.2⟩
              · exact .inr ⟨.inr (.inr h), nr h⟩
            · rintro (h | ⟨h | h | h, hn⟩)
              · exact .inr (.inl (.inl h))
              · exact .inl h
              · exact .inr (.inl (.inr ⟨h, hn⟩))
              · exact .inr (.inr h)
          · rw [g4]
            simp only [Tr.ents, List.mem_append]
            constructor
            · rintro hh x (hx | hx | hx)
              · exact epq x hx
              · exact hh x hx
              · exact fun e => not_both (b := true) (inr x hx) e2 (by rw [e]; exact List.prefix_refl _)
            · exact fun hh x hx => hh x (.inr (.inl hx))
      · have hall : ∀ x ∈ (Tr.node q u h l r).ents, x.1 ≠ p := fun x hx e' => by
          have := (hw'.mono (List.nil_prefix (l := c))).ents_in x hx
          have h9 : bs q <+: bs x.1 := by
            simp only [Tr.ents, List.mem_append] at hx
            rcases hx with hx | hx | hx
            · split at hx
              · simp only [List.mem_singleton] at hx; rw [hx]; exact List.prefix_refl _
              · simp at hx
            · exact pre_snoc (inl x hx)
            · exact pre_snoc (inr x hx)
          rw [e'] at h9
          exact snoc_ne e2 (pre_len (pre_snoc e2) h9.length_le)
        have hwq : ∀ d, d <+: bs q → (Tr.node q u h l r).WF ok bs d := fun d hd => ⟨hq, hd, h3, h4, h5⟩
        cases hb : bit p q with
        | true =>
          rw [hb] at e2
          have hput : Tr.put both bit p v (.node q u h l r) = (.node p v true .nil (.node q u h l r), true) := by rw [Tr.put, if_neg e, if_neg e0, if_pos e1, if_pos hb]
          rw [hput]
          refine ⟨⟨hp, hc, trivial, hwq _ e2, (fun h => by cases h)⟩, (fun h => by cases h), fun x => ?_, ⟨fun _ => hall, fun _ => rfl⟩⟩
          rw [show (Tr.node p v true .nil (.node q u h l r)).ents = (p, v) :: (Tr.node q u h l r).ents by simp [Tr.ents], List.mem_cons]
          exact ⟨fun h => h.imp id fun h => ⟨h, hall x h⟩, fun h => h.imp id fun h => h.1⟩
        | false =>
          rw [hb] at e2
          have hput : Tr.put both bit p v (.node q u h l r) = (.node p v true (.node q u h l r) .nil, true) := by rw [Tr.put, if_neg e, if_neg e0, if_pos e1, if_neg (by rw [hb]; exact Bool.false_ne_true)]
          rw [hput]
          refine ⟨⟨hp, hc, hwq _ e2, trivial, (fun h => by cases h)⟩, (fun h => by cases h), fun x => ?_, ⟨fun _ => hall, fun _ => rfl⟩⟩
          rw [show (Tr.node p v true (.node q u h l r) .nil).ents = (p, v) :: (Tr.node q u h l r).ents by simp [Tr.ents], List.mem_cons]
          exact ⟨fun h => h.imp id fun h => ⟨h, hall x h⟩, fun h => h.imp id fun h => h.1⟩
      · have hall : ∀ x ∈ (Tr.node q u h l r).ents, x.1 ≠ p := fun x hx e' => by
          have h9 : bs q <+: bs x.1 := by
            simp only [Tr.ents, List.mem_append] at hx
            rcases hx with hx | hx | hx
            · split at hx
              · simp only [List.mem_singleton] at hx; rw [hx]; exact List.prefix_refl _
              · simp at hx
            · exact pre_snoc (inl x hx)
            · exact pre_snoc (inr x hx)
          rw [e'] at h9
          have e7 := e5.trans h9
          have n1 := nb_of e6
          have n2 := nb_of e7
          rw [n1] at n2
          cases hbb : bit (both q p) p <;> rw [hbb] at n2 <;> cases n2
        have hwq : ∀ d, d <+: bs q → (Tr.node q u h l r).WF ok bs d := fun d hd => ⟨hq, hd, h3, h4, h5⟩
        have hcc : c <+: bs (both q p) := by rw [e3]; exact lcp_max _ _ _ h2 hc
        cases hb : bit (both q p) p with
        | true =>
          rw [hb] at e5 e6
          have hput : Tr.put both bit p v (.node q u h l r) = (.node (both q p) 0 false (.node q u h l r) (.node p v true .nil .nil), true) := by rw [Tr.put, if_neg e, if_neg e0, if_neg e1, if_pos hb]
          rw [hput]
          refine ⟨⟨e2, hcc, hwq _ e5, ⟨hp, e6, trivial, trivial, (fun h => by cases h)⟩, fun _ => ⟨rfl, (fun h => by cases h), (fun h => by cases h)⟩⟩, (fun h => by cases h), fun x => ?_, ⟨fun _ => hall, fun _ => rfl⟩⟩
          rw [show (Tr.node (both q p) 0 false (.node q u h l r) (.node p v true .nil .nil)).ents = (Tr.node q u h l r).ents ++ [(p, v)] by simp [Tr.ents], List.mem_append, List.mem_singleton]
          exact ⟨fun h => h.symm.imp id fun h => ⟨h, hall x h⟩, fun h => (h.imp id fun h => h.1).symm⟩
        | false =>
          rw [hb] at e5 e6
          have hput : Tr.put both bit p v (.node q u h l r) = (.node (both q p) 0 false (.node p v true .nil .nil) (.node q u h l r), true) := by rw [Tr.put, if_neg e, if_neg e0, if_neg e1, if_neg (by rw [hb]; exact Bool.false_ne_true)]
          rw [hput]
          refine ⟨⟨e2, hcc, ⟨hp, e6, trivial, trivial, (fun h => by cases h)⟩, hwq _ e5, fun _ => ⟨rfl, (fun h => by cases h), (fun h => by cases h)⟩⟩, (fun h => by cases h), fun x => ?_, ⟨fun _ => hall, fun _ => rfl⟩⟩
          rw [show (Tr.node (both q p) 0 false (.node p v true .nil .nil) (.node q u h l r)).ents = (p, v) :: (Tr.node q u h l r).ents by simp [Tr.ents], List.mem_cons]
          exact ⟨fun h => h.imp id fun h => ⟨h, hall x h⟩, fun h => h.imp id fun h => h.1⟩
def Tr.path (cov lt : κ → κ → Bool) (bit : κ → κ → Bool) (p : κ) : Tr κ → List (κ × Int × Bool)
  | .nil => []
  | .node q u h l r => if cov q p = true then (q, u, h) :: (if lt q p = true then (if bit q p = true then r.path cov lt bit p else l.path cov lt bit p) else []) else []
variable {cov lt : κ → κ → Bool}
structure CovLaw (ok : κ → Prop) (bs : κ → List Bool) (cov lt : κ → κ → Bool) : Prop where
  cov : ∀ q p, ok q → ok p → (cov q p = true ↔ bs q <+: bs p)
  lt : ∀ q p, ok q → ok p → (lt q p = true ↔ (bs q).length < (bs p).length)
theorem KeyLaw.path_spec (K : KeyLaw ok bs both bit) (C : CovLaw ok bs cov lt) {p : κ} (hp : ok p) : ∀ (t : Tr κ) (c : List Bool), t.WF ok bs c →
    (∀ x : κ × Int, (x.1, x.2, true) ∈ t.path cov lt bit p ↔ (x ∈ t.ents ∧ bs x.1 <+: bs p)) ∧ (∀ y ∈ t.path cov lt bit p, c <+: bs y.1 ∧ bs y.1 <+: bs p ∧ ok y.1) ∧ (t.path cov lt bit p).Pairwise (fun a b => (bs a.1).length < (bs b.1).length)
  | .nil, c, _ => ⟨fun x => by simp [Tr.path, Tr.ents], fun y hy => by simp [Tr.path] at hy, List.Pairwise.nil⟩
  | .node q u h l r, c, hw => by
    obtain ⟨hq, h2, h3, h4, h5⟩ := hw
    have inl : ∀ x ∈ l.ents, bs q ++ [false] <+: bs x.1 := fun x hx => (h3.ents_in x hx).2
    have inr : ∀ x ∈ r.ents, bs q ++ [true] <+: bs x.1 := fun x hx => (h4.ents_in x hx).2
    have hqe : ∀ x : κ × Int, x ∈ (if h = true then [(q, u)] else []) ↔ (x.1, x.2, true) = (q, u, h) := fun x => by
      cases h <;> simp [Prod.ext_iff]
    by_cases e1 : cov q p = true
    · have hpre := (C.cov q p hq hp).1 e1
      by_cases e2 : lt q p = true
      · have hlt := (C.lt q p hq hp).1 e2
        have hne : bs q ≠ bs p := fun e => by rw [e] at hlt; omega
        have hstep := pre_step hpre hne
        rw [← K.bit q p hq hp hpre hne] at hstep
        cases hb : bit q p with
        | true =>
          rw [hb] at hstep
          have hpath : Tr.path cov lt bit p (.node q u h l r) = (q, u, h) :: r.path cov lt bit p := by rw [Tr.path, if_pos e1, if_pos e2, if_pos hb]
          rw [hpath]
          obtain ⟨g1, g2, g3⟩ := K.path_spec C hp r _ h4
          refine ⟨fun x => ?_, fun y hy => ?_, List.pairwise_cons.2 ⟨fun y hy => ?_, g3⟩⟩
          · simp only [Tr.ents, List.mem_append, List.mem_cons, hqe, g1]
            constructor
            · rintro (hx | hx)
              · exact ⟨.inl hx, by have := (Prod.ext_iff.1 hx).1; simp only at this; rw [this]; exact hpre⟩
              · exact ⟨.inr (.inr hx.1), hx.2⟩
            · rintro ⟨hx | hx | hx, hn⟩
              · exact .inl hx
              · exact (not_both (b := false) (inl x hx) hstep hn).elim
              · exact .inr ⟨hx, hn⟩
          · rcases List.mem_cons.1 hy with rfl | hy
            · exact ⟨h2, hpre, hq⟩
            · have := g2 y hy
              exact ⟨h2.trans (pre_snoc this.1), this.2⟩
          · have := (g2 y hy).1.length_le
            simp at this
            show (bs q).length < (bs y.1).length
            omega
        | false =>
          rw [hb] at hstep
          have hpath : Tr.path cov lt bit p (.node q u h l r) = (q, u, h) :: l.path cov lt bit p := by rw [Tr.path, if_pos e1, if_pos e2, if_neg (by rw [hb]; exact Bool.false_ne_true)]
          rw [hpath]
          obtain ⟨g1, g2, g3⟩ := K.path_spec C hp l _ h3
          refine ⟨fun x => ?_, fun y hy => ?_, List.pairwise_cons.2 ⟨fun y hy => ?_, g3⟩⟩
          · simp only [Tr.ents, List.mem_append, List.mem_cons, hqe, g1]
            constructor
            · rintro (hx | hx)
              · exact ⟨.inl hx, by have := (Prod.ext_iff.1 hx).1; simp only at this; rw [this]; exact hpre⟩
              · exact ⟨.inr (.inl hx.1), hx.2⟩
            · rintro ⟨hx | hx | hx, hn⟩
              · exact .inl hx
              · exact .inr ⟨hx, hn⟩
              · exact (not_both (b := true) (inr x hx) hstep hn).elim
          · rcases List.mem_cons.1 hy with rfl | hy
            · exact ⟨h2, hpre, hq⟩
            · have := g2 y hy
              exact ⟨h2.trans (pre_snoc this.1), this.2⟩
          · have := (g2 y hy).1.length_le
            simp at this
            show (bs q).length < (bs y.1).length
            omega
      · have hge : ¬ (bs q).length < (bs p).length := fun h => e2 ((C.lt q p hq hp).2 h)
        have heq := pre_len hpre (by omega)
        have hpath : Tr.path cov lt bit p (.node q u h l r) = [(q, u, h)] := by rw [Tr.path, if_pos e1, if_neg e2]
        rw [hpath]
        refine ⟨fun x => ?_, fun y hy => ?_, List.pairwise_singleton _ _⟩
        · simp only [Tr.ents, List.mem_append, List.mem_singleton, hqe]
          constructor
          · intro hx
            exact ⟨.inl hx, by have := (Prod.ext_iff.1 hx).1; simp only at this; rw [this]; exact hpre⟩
          · rintro ⟨hx | hx | hx, hn⟩
            · exact hx
            · exact absurd (pre_len (pre_snoc (inl x hx)) (by rw [heq]; exact hn.length_le)) (snoc_ne (inl x hx))
            · exact absurd (pre_len (pre_snoc (inr x hx)) (by rw [heq]; exact hn.length_le)) (snoc_ne (inr x hx))
        · rw [List.mem_singleton] at hy
          subst hy
          exact ⟨h2, hpre, hq⟩
    · have hpath : Tr.path cov lt bit p (.node q u h l r) = [] := by rw [Tr.path, if_neg e1]
      rw [hpath]
      refine ⟨fun x => ?_, fun y hy => by simp at hy, List.Pairwise.nil⟩
      simp only [Tr.ents, List.mem_append]
      constructor
      · intro hx; simp at hx
      · rintro ⟨hx, hn⟩
        have h9 : bs q <+: bs x.1 := by
          rcases hx with hx | hx | hx
          · rw [hqe] at hx
            have := (Prod.ext_iff.1 hx).1
            simp only at this
            rw [this]
            exact List.prefix_refl _
          · exact pre_snoc (inl x hx)
          · exact pre_snoc (inr x hx)
        exact absurd ((C.cov q p hq hp).2 (h9.trans hn)) e1
def Tr.best (cov lt : κ → κ → Bool) (bit : κ → κ → Bool) (p : κ) (t : Tr κ) : Option (κ × Int) := (((t.path cov lt bit p).filter (·.2.2)).getLast?).map (fun n => (n.1, n.2.1))
def Tr.get (cov lt : κ → κ → Bool) (bit : κ → κ → Bool) (p : κ) (t : Tr κ) : Option Int := ((t.path cov lt bit p).find? (fun n => decide (n.1 = p) && n.2.2)).map (·.2.1)
theorem KeyLaw.best_some (K : KeyLaw ok bs both bit) (C : CovLaw ok bs cov lt) {p : κ} (hp : ok p) {t : Tr κ} {c : List Bool} (hw : t.WF ok bs c) {x : κ × Int} (h : t.best cov lt bit p = some x) :
    x ∈ t.ents ∧ bs x.1 <+: bs p ∧ ∀ y ∈ t.ents, bs y.1 <+: bs p → bs y.1 <+: bs x.1 := by
  obtain ⟨g1, g2, g3⟩ := K.path_spec C hp t c hw
  unfold Tr.best at h
  rw [Option.map_eq_some_iff] at h
  obtain ⟨n, h1, rfl⟩ := h
  obtain ⟨A, hA⟩ := List.getLast?_eq_some_iff.1 h1
  have hn : n ∈ (t.path cov lt bit p).filter (·.2.2) := by rw [hA]; simp
  obtain ⟨m1, m2⟩ := List.mem_filter.1 hn
  have hx : (n.1, n.2.1, true) ∈ t.path cov lt bit p := by
    have : n = (n.1, n.2.1, true) := by rw [← m2]
    rw [← this]; exact m1
  obtain ⟨k1, k2⟩ := (g1 (n.1, n.2.1)).1 hx
  refine ⟨k1, k2, fun y hy hyp => ?_⟩
  have hy2 := (g1 y).2 ⟨hy, hyp⟩
  have hy3 : (y.1, y.2, true) ∈ (t.path cov lt bit p).filter (·.2.2) := List.mem_filter.2 ⟨hy2, rfl⟩
  have hs := g3.filter (·.2.2)
  rw [hA] at hs hy3
  have hle : (bs y.1).length ≤ (bs n.1).length := by
    rcases List.mem_append.1 hy3 with h | h
    · have := (List.pairwise_append.1 hs).2.2 _ h n (by simp)
      simp only at this
      omega
    · rw [List.mem_singleton] at h
      rw [← h]
      exact Nat.le_refl _
  exact List.prefix_of_prefix_length_le hyp k2 hle
theorem KeyLaw.best_none (K : KeyLaw ok bs both bit) (C : CovLaw ok bs cov lt) {p : κ} (hp : ok p) {t : Tr κ} {c : List Bool} (hw : t.WF ok bs c) (h : t.best cov lt bit p = none) :
    ∀ y ∈ t.ents, ¬ bs y.1 <+: bs p := by
  obtain ⟨g1, g2, g3⟩ := K.path_spec C hp t c hw
  unfold Tr.best at h
  rw [Option.map_eq_none_iff, List.getLast?_eq_none_iff] at h
  intro y hy hyp
  have hy2 := (g1 y).2 ⟨hy, hyp⟩
  have : (y.1, y.2, true) ∈ (t.path cov lt bit p).filter (·.2.2) := List.mem_filter.2 ⟨hy2, rfl⟩
  rw [h] at this
  simp at this
theorem Tr.WF.root (K : KeyLaw ok bs both bit) {p q : κ} {u v : Int} {h k : Bool} {l r l' r' : Tr κ} {c d : List Bool} (h1 : (Tr.node p u h l r).WF ok bs c) (h2 : (Tr.node q v k l' r').WF ok bs d) (hm : ∀ x, x ∈ (Tr.node p u h l r).ents → x ∈ (Tr.node q v k l' r').ents) : bs q <+: bs p := by
  obtain ⟨a1, a2, a3, a4, a5⟩ := h1
  have inq : ∀ x ∈ (Tr.node p u h l r).ents, bs q <+: bs x.1 := fun x hx => (Tr.WF.ents_in (c := bs q) (t := Tr.node q v k l' r') ⟨h2.1, List.prefix_refl _, h2.2.2⟩ x (hm x hx)).2
  cases h with
  | true => exact inq (p, u) (by simp [Tr.ents])
  | false =>
    obtain ⟨_, nl, nr⟩ := a5 rfl
    obtain ⟨x, hx⟩ := List.exists_mem_of_ne_nil _ (a3.ne_nil nl)
    obtain ⟨y, hy⟩ := List.exists_mem_of_ne_nil _ (a4.ne_nil nr)
    have b1 := inq x (by simp [Tr.ents, hx])
    have b2 := inq y (by simp [Tr.ents, hy])
    have c1 := (a3.ents_in x hx).2
    have c2 := (a4.ents_in y hy).2
    rcases pre_two b1 (pre_snoc c1) with h | h
    · exact h
    · by_cases e : bs p = bs q
      · rw [e]; exact List.prefix_refl _
      · have d1 := pre_step h e
        have e1 := nb_of c1
        have e2 := nb_of c2
        have e3 := nb_of (d1.trans b1)
        have e4 := nb_of (d1.trans b2)
        rw [e1] at e3
        rw [e2, ← e3] at e4
        cases e4
theorem Tr.WF.small : ∀ {t : Tr κ} {c : List Bool}, t.WF ok bs c → t ≠ .nil → t.shp.length + 1 ≤ 2 * t.ents.length
  | .nil, _, _, h => absurd rfl h
  | .node p v h l r, c, ⟨_, _, h3, h4, h5⟩, _ => by
    have hl : l = .nil ∨ l.shp.length + 1 ≤ 2 * l.ents.length := by
      by_cases e : l = .nil
      · exact .inl e
      · exact .inr (h3.small e)
    have hr : r = .nil ∨ r.shp.length + 1 ≤ 2 * r.ents.length := by
      by_cases e : r = .nil
      · exact .inl e
      · exact .inr (h4.small e)
    simp only [shp, ents, List.length_cons, List.length_append]
    cases h with
    | true =>
      simp only [if_true, List.length_cons, List.length_nil]
      rcases hl with rfl | hl <;> rcases hr with rfl | hr <;> simp [shp, ents] at * <;> omega
    | false =>
      obtain ⟨_, n1, n2⟩ := h5 rfl
      have hl := hl.resolve_left n1
      have hr := hr.resolve_left n2
      simp
      omega
end
theorem bitU_01 (b : List UInt8) (i : Int) : bitU b i = 0 ∨ bitU b i = 1 := by
  have h : (bitU b i).toNat < 2 := by rw [bitU_toNat]; exact Nat.mod_lt _ (by decide)
  rcases (show (bitU b i).toNat = 0 ∨ (bitU b i).toNat = 1 by omega) with h | h
  · exact .inl (UInt8.toNat_inj.1 h)
  · exact .inr (UInt8.toNat_inj.1 h)
theorem byte_ext (x y : UInt8) (h : ∀ j, j < 8 → bitOf x j = bitOf y j) : x = y := by
  have hz : x ^^^ y = 0 := by
    have h1 := (mk1_iff (x ^^^ y) 0).2 (fun j hj _ => by
      have e := h j hj
      apply UInt8.toNat_inj.1
      rw [bitOf_toNat, UInt8.toNat_xor, bn_xor, ← bitOf_toNat, ← bitOf_toNat, e]
      have : (bitOf y j).toNat < 2 := by rw [bitOf_toNat]; exact Nat.mod_lt _ (by decide)
      show ((bitOf y j).toNat + (bitOf y j).toNat) % 2 = 0
      omega)
    rw [← h1]
    rfl
  have e2 := congrArg UInt8.toNat hz
  rw [UInt8.toNat_xor] at e2
  exact UInt8.toNat_inj.1 (xor_zero e2)
theorem bits_ext (a b : Vector UInt8 16) (h : ∀ i : Int, 0 ≤ i → i < 128 → bitU a.toList i = bitU b.toList i) : a = b := by
  apply Vector.ext
  intro k hk
  refine byte_ext _ _ (fun j hj => ?_)
  have := h (8 * (k : Int) + j) (by omega) (by omega)
  rw [bitU_at _ _ _ hj, bitU_at _ _ _ hj, vec_getD _ k hk, vec_getD _ k hk] at this
  exact this
set_option maxRecDepth 100000 in
theorem mk1_bit_dec : ∀ n : Fin 256, ∀ l : Fin 9, ∀ j : Fin 8, bn (mk1 (l.val : Int) (UInt8.ofNat n.val)).toNat (7 - j.val) = if j.val < l.val then bn n.val (7 - j.val) else 0 := by decide +kernel
theorem mk1_bit (x : UInt8) (left : Int) (j : Nat) (hj : j < 8) : bitOf (mk1 left x) j = if (j : Int) < left then bitOf x j else 0 := by
  have key : ∀ l : Nat, l < 9 → bitOf (mk1 (l : Int) x) j = if j < l then bitOf x j else 0 := fun l hl => by
    have h := mk1_bit_dec ⟨x.toNat, x.toNat_lt⟩ ⟨l, hl⟩ ⟨j, hj⟩
    simp only [UInt8.ofNat_toNat] at h
    apply UInt8.toNat_inj.1
    rw [bitOf_toNat, h]
    split
    · rw [bitOf_toNat]
    · rfl
  by_cases h0 : left ≤ 0
  · have e : mk1 left x = mk1 ((0 : Nat) : Int) x := by
      unfold mk1
      rw [if_pos h0, if_pos (by omega)]
    rw [e, key 0 (by omega), if_neg (by omega), if_neg (by omega)]
  · by_cases h8 : left < 8
    · have e : left = (left.toNat : Int) := by omega
      rw [e, key left.toNat (by omega)]
      by_cases hl : j < left.toNat
      · rw [if_pos hl, if_pos (by omega)]
      · rw [if_neg hl, if_neg (by omega)]
    · have e : mk1 left x = x := by
        unfold mk1
        rw [if_neg h0, if_neg h8]
      rw [e, if_pos (by omega)]
theorem mask_bit (n : Int) (b : Vector UInt8 16) (i : Int) (h0 : 0 ≤ i) (h1 : i < 128) : bitU (maskV n b).toList i = if i < n then bitU b.toList i else 0 := by
  have e : i = 8 * ((i / 8).toNat : Int) + ((i % 8).toNat : Int) := by omega
  have hk : (i / 8).toNat < 16 := by omega
  rw [e, bitU_at _ _ _ (by omega), bitU_at _ _ _ (by omega), vec_getD _ _ hk, vec_getD _ _ hk]
  have em : (maskV n b)[(i / 8).toNat] = mk1 (n - 8 * ((i / 8).toNat : Int)) b[(i / 8).toNat] := by simp [maskV]
  rw [em, mk1_bit _ _ _ (by omega)]
  by_cases h : i < n
  · rw [if_pos (by omega), if_pos (by omega)]
  · rw [if_neg (by omega), if_neg (by omega)]
def pb (p : SPrefix) : List Bool := (List.range p.bits.toNat).map fun i : Nat => decide (bitU p.addr.b.toList i = 1)
@[simp] theorem pb_len (p : SPrefix) : (pb p).length = p.bits.toNat := by simp [pb]
theorem pb_get (p : SPrefix) (i : Nat) (h : i < p.bits.toNat) : (pb p)[i]? = some (decide (bitU p.addr.b.toList i = 1)) := by simp [pb, h]
theorem pre_iff (x y : List Bool) : x <+: y ↔ x.length ≤ y.length ∧ ∀ i, i < x.length → x[i]? = y[i]? := by
  constructor
  · rintro ⟨z, rfl⟩
    exact ⟨by simp, fun i hi => by rw [List.getElem?_append_left hi]⟩
  · rintro ⟨h1, h2⟩
    refine ⟨y.drop x.length, ?_⟩
    have : x = y.take x.length := by
      apply List.ext_getElem?
      intro i
      by_cases hi : i < x.length
      · rw [h2 i hi, List.getElem?_take_of_lt hi]
      · rw [List.getElem?_eq_none (by omega), List.getElem?_eq_none (by simp; omega)]
    rw [this]
    simp
    rw [Nat.min_eq_left h1, List.take_append_drop]
theorem dec_bit {a b : List UInt8} {i j : Int} : decide (bitU a i = 1) = decide (bitU b j = 1) ↔ bitU a i = bitU b j := by
  rcases bitU_01 a i with h | h <;> rcases bitU_01 b j with k | k <;> simp [h, k]
theorem pb_pre (p q : SPrefix) (hp : 0 ≤ p.bits) (hq : 0 ≤ q.bits) : pb p <+: pb q ↔ p.bits ≤ q.bits ∧ ∀ i : Int, 0 ≤ i → i < p.bits → bitU p.addr.b.toList i = bitU q.addr.b.toList i := by
  rw [pre_iff, pb_len, pb_len]
  constructor
  · rintro ⟨h1, h2⟩
    refine ⟨by omega, fun i h3 h4 => ?_⟩
    have := h2 i.toNat (by omega)
    rw [pb_get p _ (by omega), pb_get q _ (by omega)] at this
    have e : ((i.toNat : Nat) : Int) = i := by omega
    rw [e] at this
    exact dec_bit.1 (Option.some.inj this)
  · rintro ⟨h1, h2⟩
    refine ⟨by omega, fun i hi => ?_⟩
    rw [pb_get p _ (by omega), pb_get q _ (by omega)]
    exact congrArg some (dec_bit.2 (h2 i (by omega) (by omega)))
def okP (k : Bool) (p : SPrefix) : Prop := checkP p = 0 ∧ p.addr.v6 = k
theorem okP.nn {k : Bool} {p : SPrefix} (h : okP k p) : 0 ≤ p.bits ∧ p.bits ≤ wd p.addr ∧ p.bits ≤ 128 := by
  have := (checkP_zero p).1 h.1
  have := wd_le p.addr
  omega
def comN (p q : SPrefix) : Int := min (min p.bits q.bits) (commonB p.addr.b.toList q.addr.b.toList)
def bothP (p q : SPrefix) : SPrefix := ⟨⟨p.addr.v6, maskV (comN p q) p.addr.b⟩, comN p q⟩
def bitP (p q : SPrefix) : Bool := decide (bitU q.addr.b.toList p.bits = 1)
theorem comN_spec {k : Bool} {p q : SPrefix} (hp : okP k p) (hq : okP k q) : 0 ≤ comN p q ∧ comN p q ≤ p.bits ∧ comN p q ≤ q.bits ∧ (∀ i : Int, 0 ≤ i → i < comN p q → bitU p.addr.b.toList i = bitU q.addr.b.toList i) ∧
    (comN p q < p.bits → comN p q < q.bits → bitU p.addr.b.toList (comN p q) ≠ bitU q.addr.b.toList (comN p q)) := by
  have h := commonB_is p.addr.b.toList q.addr.b.toList
  have h1 := hp.nn
  have h2 := hq.nn
  have h3 := h.p
  unfold comN
  refine ⟨by omega, by omega, by omega, fun i i0 i1 => h.eq i i0 (by omega), fun l1 l2 => ?_⟩
  have e : min (min p.bits q.bits) (commonB p.addr.b.toList q.addr.b.toList) = commonB p.addr.b.toList q.addr.b.toList := by omega
  rw [e]
  refine h.ne ?_ ?_ <;> simp <;> omega
theorem comN_of {k : Bool} {p q : SPrefix} (hp : okP k p) (hq : okP k q) {n : Int} (h0 : 0 ≤ n) (h1 : n ≤ p.bits) (h2 : n ≤ q.bits) (h3 : ∀ i : Int, 0 ≤ i → i < n → bitU p.addr.b.toList i = bitU q.addr.b.toList i)
    (h4 : n < p.bits → n < q.bits → bitU p.addr.b.toList n ≠ bitU q.addr.b.toList n) : n = comN p q := by
  obtain ⟨g0, g1, g2, g3, g4⟩ := comN_spec hp hq
  rcases Int.lt_trichotomy n (comN p q) with h | h | h
  · exact absurd (g3 n h0 h) (h4 (by omega) (by omega))
  · exact h
  · exact absurd (h3 _ g0 h) (g4 (by omega) (by omega))
theorem both_ok {k : Bool} {p q : SPrefix} (hp : okP k p) (hq : okP k q) : okP k (bothP p q) := by
  obtain ⟨g0, g1, g2, g3, g4⟩ := comN_spec hp hq
  have h1 := hp.nn
  refine ⟨(checkP_zero _).2 ⟨g0, ?_, fun i h3 h4 => ?_⟩, hp.2⟩
  · show comN p q ≤ wd (bothP p q).addr
    have : wd (bothP p q).addr = wd p.addr := rfl
    omega
  · have hi : comN p q ≤ i := h3
    show bitU (maskV (comN p q) p.addr.b).toList i = 0
    rw [mask_bit _ _ _ (by omega) h4, if_neg (by omega)]
theorem pb_inj {k : Bool} {p q : SPrefix} (hp : okP k p) (hq : okP k q) (h : pb p = pb q) : p = q := by
  have h1 := hp.nn
  have h2 := hq.nn
  have hb : p.bits = q.bits := by
    have := congrArg List.length h
    simp at this
    omega
  have hpre := (pb_pre p q h1.1 h2.1).1 (by rw [h]; exact List.prefix_refl _)
  have hv : p.addr.b = q.addr.b := bits_ext _ _ (fun i i0 i1 => by
    rcases Int.lt_or_le i p.bits with hi | hi
    · exact hpre.2 i i0 hi
    · rw [((checkP_zero p).1 hp.1).2.2 i hi i1, ((checkP_zero q).1 hq.1).2.2 i (by omega) i1])
  have hk : p.addr.v6 = q.addr.v6 := hp.2.trans hq.2.symm
  obtain ⟨⟨v1, b1⟩, n1⟩ := p
  obtain ⟨⟨v2, b2⟩, n2⟩ := q
  simp only at hb hv hk
  subst hb hv hk
  rfl
theorem keyLaw (k : Bool) : KeyLaw (okP k) pb bothP bitP where
  inj := fun p q hp hq h => pb_inj hp hq h
  both := fun p q hp hq => by
    have hb := both_ok hp hq
    refine ⟨hb, ?_⟩
    obtain ⟨g0, g1, g2, g3, g4⟩ := comN_spec hp hq
    have h1 := hp.nn
    have h2 := hq.nn
    have hbit : ∀ i : Int, 0 ≤ i → i < comN p q → bitU (bothP p q).addr.b.toList i = bitU p.addr.b.toList i := fun i i0 i1 => by
      show bitU (maskV (comN p q) p.addr.b).toList i = _
      rw [mask_bit _ _ _ i0 (by omega), if_pos i1]
    have c1 : pb (bothP p q) <+: pb p := (pb_pre _ _ g0 h1.1).2 ⟨g1, hbit⟩
    have c2 : pb (bothP p q) <+: pb q := (pb_pre _ _ g0 h2.1).2 ⟨g2, fun i i0 i1 => (hbit i i0 i1).trans (g3 i i0 i1)⟩
    refine pre_len (lcp_max _ _ _ c1 c2) ?_
    have l1 := (lcp_left (pb p) (pb q)).length_le
    have l2 := (lcp_right (pb p) (pb q)).length_le
    rw [pb_len] at l1 l2 ⊢
    show _ ≤ (comN p q).toNat
    rcases Nat.lt_or_ge (comN p q).toNat (lcp (pb p) (pb q)).length with hl | hl
    · exfalso
      have e1 := ((pre_iff _ _).1 (lcp_left (pb p) (pb q))).2 _ hl
      have e2 := ((pre_iff _ _).1 (lcp_right (pb p) (pb q))).2 _ hl
      rw [e1, pb_get p _ (by omega), pb_get q _ (by omega)] at e2
      have e : (((comN p q).toNat : Nat) : Int) = comN p q := by omega
      rw [e] at e2
      exact g4 (by omega) (by omega) (dec_bit.1 (Option.some.inj e2))
    · exact hl
  bit := fun p q hp hq hpre hne => by
    have h1 := hp.nn
    have h2 := hq.nn
    have hlt : p.bits < q.bits := by
      have := ((pb_pre p q h1.1 h2.1).1 hpre).1
      rcases Int.lt_or_le p.bits q.bits with h | h
      · exact h
      · exact absurd (pre_len hpre (by simp; omega)) hne
    unfold bitP nb
    rw [pb_len, List.getD_eq_getElem?_getD, pb_get q _ (by omega)]
    have e : ((p.bits.toNat : Nat) : Int) = p.bits := by omega
    rw [e]
    rfl
theorem covers_iff {k : Bool} {q p : SPrefix} (hq : okP k q) (hp : okP k p) : coversP q p = true ↔ pb q <+: pb p := by
  have h1 := hq.nn
  have h2 := hp.nn
  unfold coversP
  rw [pb_pre q p h1.1 h2.1, Bool.and_eq_true, Bool.and_eq_true, decide_eq_true_iff, decide_eq_true_iff, hasP_iff]
  constructor
  · rintro ⟨⟨_, a⟩, _, _, _, b⟩
    exact ⟨a, fun i i0 i1 => (b i i0 i1).symm⟩
  · rintro ⟨a, b⟩
    exact ⟨⟨hp.1, a⟩, hq.1, checkP_addr p hp.1, hp.2.trans hq.2.symm, fun i i0 i1 => (b i i0 i1).symm⟩
def ltP (q p : SPrefix) : Bool := decide (q.bits < p.bits)
theorem covLaw (k : Bool) : CovLaw (okP k) pb coversP ltP where
  cov := fun q p hq hp => covers_iff hq hp
  lt := fun q p hq hp => by
    have h1 := hq.nn
    have h2 := hp.nn
    unfold ltP
    rw [decide_eq_true_iff, pb_len, pb_len]
    omega
def full (a : SAddr) : SPrefix := ⟨a, wd a⟩
theorem full_ok {a : SAddr} (h : checkA a = 0) : okP a.v6 (full a) := ⟨(checkP_zero _).2 ⟨by have := wd_le a; show 0 ≤ wd a; omega, Int.le_refl _, (checkA_zero a).1 h⟩, rfl⟩
theorem has_full {p : SPrefix} {a : SAddr} (h : checkA a = 0) : hasP p a = true ↔ (okP a.v6 p ∧ pb p <+: pb (full a)) := by
  constructor
  · intro hh
    obtain ⟨h1, h2, h3, h4⟩ := (hasP_iff p a).1 hh
    have ho : okP a.v6 p := ⟨h1, h3.symm⟩
    have h5 := ho.nn
    have h6 := (full_ok h).nn
    refine ⟨ho, (pb_pre _ _ h5.1 h6.1).2 ⟨?_, fun i i0 i1 => (h4 i i0 i1).symm⟩⟩
    show p.bits ≤ wd a
    have : wd a = wd p.addr := by unfold wd; rw [h3]
    omega
  · rintro ⟨ho, hpre⟩
    have h5 := ho.nn
    have h6 := (full_ok h).nn
    exact (hasP_iff p a).2 ⟨ho.1, h, ho.2.symm, fun i i0 i1 => (((pb_pre _ _ h5.1 h6.1).1 hpre).2 i i0 i1).symm⟩
end Go.Proofs.YtakmoeladkajdaaGreat.Tri
namespace Go.Proofs.YtakmoeladkajdaaGreat.Tri
open Go Go.Gx
structure STrieNode where
  p : SPrefix
  v : Int
  has : Bool
  kids : (Vector OV 2)
def STrieNode.to : (SPrefix × (Int × (Bool × (Vector OV 2)))) → STrieNode := fun x => ⟨x.1, x.2.1, x.2.2.1, x.2.2.2⟩
def STrieNode.of : STrieNode → (SPrefix × (Int × (Bool × (Vector OV 2)))) := fun x => (x.p, x.v, x.has, x.kids)
def eTrieNode : Enc STrieNode := isoE (prodE ePrefix (prodE iE (prodE bE (arrE 2 (ovE nilPtr))))) STrieNode.to STrieNode.of
def STrieNode.l_p : Lens eTrieNode ePrefix 0 := lIso _ STrieNode.to STrieNode.of (fun _ => rfl) (lFst ePrefix (prodE iE (prodE bE (arrE 2 (ovE nilPtr)))))
@[simp] theorem STrieNode.get_p (x : STrieNode) : STrieNode.l_p.get x = x.p := rfl
@[simp] theorem STrieNode.set_p (x : STrieNode) (y : SPrefix) : STrieNode.l_p.set x y = { x with p := y } := rfl
def STrieNode.l_v : Lens eTrieNode iE 18 := lIso _ STrieNode.to STrieNode.of (fun _ => rfl) (Lens.comp (lSnd ePrefix (prodE iE (prodE bE (arrE 2 (ovE nilPtr))))) (lFst iE (prodE bE (arrE 2 (ovE nilPtr)))))
@[simp] theorem STrieNode.get_v (x : STrieNode) : STrieNode.l_v.get x = x.v := rfl
@[simp] theorem STrieNode.set_v (x : STrieNode) (y : Int) : STrieNode.l_v.set x y = { x with v := y } := rfl
def STrieNode.l_has : Lens eTrieNode bE 19 := lIso _ STrieNode.to STrieNode.of (fun _ => rfl) (Lens.comp (lSnd ePrefix (prodE iE (prodE bE (arrE 2 (ovE nilPtr))))) (Lens.comp (lSnd iE (prodE bE (arrE 2 (ovE nilPtr)))) (lFst bE (arrE 2 (ovE nilPtr)))))
@[simp] theorem STrieNode.get_has (x : STrieNode) : STrieNode.l_has.get x = x.has := rfl
@[simp] theorem STrieNode.set_has (x : STrieNode) (y : Bool) : STrieNode.l_has.set x y = { x with has := y } := rfl
def STrieNode.l_kids : Lens eTrieNode (arrE 2 (ovE nilPtr)) 20 := lIso _ STrieNode.to STrieNode.of (fun _ => rfl) (Lens.comp (lSnd ePrefix (prodE iE (prodE bE (arrE 2 (ovE nilPtr))))) (Lens.comp (lSnd iE (prodE bE (arrE 2 (ovE nilPtr)))) (Lens.comp (lSnd bE (arrE 2 (ovE nilPtr))) (Lens.id (arrE 2 (ovE nilPtr))))))
@[simp] theorem STrieNode.get_kids (x : STrieNode) : STrieNode.l_kids.get x = x.kids := rfl
@[simp] theorem STrieNode.set_kids (x : STrieNode) (y : (Vector OV 2)) : STrieNode.l_kids.set x y = { x with kids := y } := rfl
structure STrieTrie where
  made : Bool
  n : Int
  roots : (Vector OV 2)
def STrieTrie.to : (Bool × (Int × (Vector OV 2))) → STrieTrie := fun x => ⟨x.1, x.2.1, x.2.2⟩
def STrieTrie.of : STrieTrie → (Bool × (Int × (Vector OV 2))) := fun x => (x.made, x.n, x.roots)
def eTrieTrie : Enc STrieTrie := isoE (prodE bE (prodE iE (arrE 2 (ovE nilPtr)))) STrieTrie.to STrieTrie.of
def STrieTrie.l_made : Lens eTrieTrie bE 0 := lIso _ STrieTrie.to STrieTrie.of (fun _ => rfl) (lFst bE (prodE iE (arrE 2 (ovE nilPtr))))
@[simp] theorem STrieTrie.get_made (x : STrieTrie) : STrieTrie.l_made.get x = x.made := rfl
@[simp] theorem STrieTrie.set_made (x : STrieTrie) (y : Bool) : STrieTrie.l_made.set x y = { x with made := y } := rfl
def STrieTrie.l_n : Lens eTrieTrie iE 1 := lIso _ STrieTrie.to STrieTrie.of (fun _ => rfl) (Lens.comp (lSnd bE (prodE iE (arrE 2 (ovE nilPtr)))) (lFst iE (arrE 2 (ovE nilPtr))))
@[simp] theorem STrieTrie.get_n (x : STrieTrie) : STrieTrie.l_n.get x = x.n := rfl
@[simp] theorem STrieTrie.set_n (x : STrieTrie) (y : Int) : STrieTrie.l_n.set x y = { x with n := y } := rfl
def STrieTrie.l_roots : Lens eTrieTrie (arrE 2 (ovE nilPtr)) 2 := lIso _ STrieTrie.to STrieTrie.of (fun _ => rfl) (Lens.comp (lSnd bE (prodE iE (arrE 2 (ovE nilPtr)))) (Lens.comp (lSnd iE (arrE 2 (ovE nilPtr))) (Lens.id (arrE 2 (ovE nilPtr)))))
@[simp] theorem STrieTrie.get_roots (x : STrieTrie) : STrieTrie.l_roots.get x = x.roots := rfl
@[simp] theorem STrieTrie.set_roots (x : STrieTrie) (y : (Vector OV 2)) : STrieTrie.l_roots.set x y = { x with roots := y } := rfl
inductive PT where
  | nil : PT
  | node : Nat → SPrefix → Int → Bool → PT → PT → PT
def PT.adr : PT → Option Addr
  | .nil => none
  | .node b _ _ _ _ _ => some ⟨b, 0, none⟩
def PT.ptr (t : PT) : OV := ⟨.pointer t.adr, rfl⟩
def PT.tr : PT → Tr SPrefix
  | .nil => .nil
  | .node _ p v h l r => .node p v h l.tr r.tr
def kids (l r : PT) : Vector OV 2 := #v[l.ptr, r.ptr]
def PT.kid (b : Bool) (l r : PT) : PT := bif b then r else l
def PT.At (w : World) : PT → Prop
  | .nil => True
  | .node b p v h l r => PtsTo eTrieNode w b 0 (⟨p, v, h, kids l r⟩ : STrieNode) ∧ l.At w ∧ r.At w
theorem PT.At.keep {w w' : World} : ∀ {t : PT}, t.At w → Keeps Nope w w' → t.At w'
  | .nil, _, _ => trivial
  | .node _ _ _ _ _ _, ⟨h1, h2, h3⟩, k => ⟨h1.keep k, h2.keep k, h3.keep k⟩
def bI (b : Bool) : Int := bif b then 1 else 0
theorem bI_nn (b : Bool) : 0 ≤ bI b ∧ bI b < 2 := by cases b <;> decide
theorem kids_at (l r : PT) (b : Bool) (h : (bI b).toNat < 2) : (kids l r)[(bI b).toNat] = (PT.kid b l r).ptr := by cases b <;> rfl
theorem PT.At.kid {w : World} {l r : PT} (hl : l.At w) (hr : r.At w) (b : Bool) : (PT.kid b l r).At w := by cases b <;> assumption
def PT.bare : PT → PT
  | .nil => .nil
  | .node b p v h l r => if h = true ∨ (l.adr.isNone = false ∧ r.adr.isNone = false) then .node b p v h l r else if l.adr.isNone = false then l else r
theorem PT.At.bare {w : World} {t : PT} (h : t.At w) : t.bare.At w := by
  cases t with
  | nil => trivial
  | node b p v g l r =>
    simp only [PT.bare]
    split
    · exact h
    · split
      · exact h.2.1
      · exact h.2.2
def nodeV (p : SPrefix) (v : Int) (h : Bool) (l r : PT) : STrieNode := ⟨p, v, h, kids l r⟩
theorem bit_01 (b : List UInt8) (i : Int) : ((bitU b i).toNat : Int) = bI (decide (bitU b i = 1)) := by
  rcases bitU_01 b i with h | h <;> rw [h] <;> rfl
theorem bit_ok (a : SAddr) (i : Int) (w : World) (hi : 0 ≤ i ∧ i < 128) : Calls Tryz.prog 145 #[eAddr.val a, I i] w (RetV w (I (bI (decide (bitU a.b.toList i = 1))))) := by
  refine en0 16 Tryz.func145 ?_
  refine sg (cons (box (E := eAddr) (.t rfl) (fun b1 => ?_)))
  refine co (Ev.assign (.c (v := I 0) rfl)) ?_
  refine nP (seq ?_)
  have h16 : (i / 8).toNat < 16 := by omega
  have hq : 0 ≤ (a.b[(i / 8).toNat].toNat : Int) / 2 ^ (7 - i % 8).toNat ∧ (a.b[(i / 8).toNat].toNat : Int) / 2 ^ (7 - i % 8).toNat ≤ 9223372036854775807 := by
    have hx := a.b[(i / 8).toNat].toNat_lt
    have e : ((a.b[(i / 8).toNat].toNat : Int) / 2 ^ (7 - i % 8).toNat) = ((a.b[(i / 8).toNat].toNat / 2 ^ (7 - i % 8).toNat : Nat) : Int) := by simp
    rw [e]
    have h1 := Nat.div_le_self a.b[(i / 8).toNat].toNat (2 ^ (7 - i % 8).toNat)
    have h2 : ∀ y : Nat, y ≤ 255 → 0 ≤ (y : Int) ∧ (y : Int) ≤ 9223372036854775807 := fun y hy => by omega
    exact h2 _ (by omega)
  refine region (mv rfl (co (Ev.quo_n (.t rfl) (.c (v := I 8) rfl) (fun _ => zo) (fun _ => zo) (fun _ => zo)) ?_))
  refine co (fA 1 (.t rfl)) ?_
  refine co (Ev.indexAddrA Tryz.underlying43 ty5 (.t rfl) (.t rfl) (fun _ => zo)) ?_
  refine co (Ev.ldv ty5 (.t rfl) (Lens.comp SAddr.l_b (lArr (n := 16) u8E _ (by omega)))) ?_
  refine co (Ev.conv_u8_i Tryz.underlying3 Tryz.underlying5 (.t rfl)) ?_
  refine mv rfl (co (Ev.rem_n (.t rfl) (.c (v := I 8) rfl) (fun _ => zo) (fun _ => zo)) ?_)
  refine co (Ev.sub_i (.c (v := I 7) rfl) (.t rfl) (fun _ => zo)) ?_
  refine co (Ev.shr_i (.t rfl) (.t rfl) (fun _ => zo)) ?_
  refine co (Ev.and_n (.t rfl) (.c (v := I 1) rfl) (fun _ => hq) (fun _ => by decide)) ?_
  refine asn rfl (nP (ret (done rfl (.tmp rfl .nil) (retE ?_))))
  refine congrArg I ?_
  rw [← bit_01]
  have e : ((a.b[(i / 8).toNat].toNat : Int) / 2 ^ (7 - i % 8).toNat) = ((a.b[(i / 8).toNat].toNat / 2 ^ (7 - i % 8).toNat : Nat) : Int) := by simp
  have e3 : (1 : Int).toNat = 1 := rfl
  rw [bitU_toNat, vec_getD _ _ h16, e3, Nat.and_one_is_mod]
  unfold bn
  show (((((a.b[(i / 8).toNat].toNat : Int) / 2 ^ (7 - i % 8).toNat)).toNat % 2 : Nat) : Int) = _
  rw [e, Int.toNat_natCast]
theorem kind_ok (a : SAddr) (w : World) : Calls Tryz.prog 106 #[eAddr.val a] w (RetV w (I (bI a.v6))) := by
  refine en0 5 Tryz.func106 ?_
  refine sg (cons (box (E := eAddr) (.t rfl) (fun b1 => ?_)))
  refine co (Ev.assign (.c (v := I 0) rfl)) ?_
  refine nP (seq (sg (co (fA 0 (.t rfl)) ?_)))
  refine co (Ev.ldx a.v6 ty4 (.t rfl) SAddr.l_v6) ?_
  refine nP ?_
  first | refine condD rfl (fun h0 => ?_) (fun h0 => ?_) | refine cond rfl (fun h0 => ?_) (fun h0 => ?_)
  · try simp only [nb] at h0
    refine sg (co (Ev.assign (.c (v := I 1) rfl)) ?_)
    refine nP (ret (pR (done rfl (.tmp rfl .nil) (retE ?_))))
    rw [h0]; rfl
  · try simp only [nb] at h0
    refine skip (pN (sg (co (Ev.assign (.c (v := I 0) rfl)) ?_)))
    refine nP (ret (done rfl (.tmp rfl .nil) (retE ?_)))
    rw [h0]; rfl
def ofE (a : SAddr) (n : Int) : Int := if checkA a ≠ 0 then checkA a else if n < 0 ∨ wd a < n then 151 else 0
def ofV (a : SAddr) (n : Int) : SPrefix := if ofE a n = 0 then ⟨⟨a.v6, maskV n a.b⟩, n⟩ else ePrefix.zero
theorem masked_g (a : SAddr) (n : Int) (w : World) (hn : 0 ≤ n ∧ n ≤ 128) (z : Vector UInt8 16) (hz : maskV n a.b = z) : Calls Tryz.prog 104 #[eAddr.val a, I n] w (RetV w (eAddr.val { a with b := z })) := by
  subst hz
  exact masked_ok a n w hn
theorem of_ok (a : SAddr) (n : Int) (w : World) : Calls Tryz.prog 154 #[eAddr.val a, I n] w (RetV w (.tuple #[ePrefix.val (ofV a n), I (ofE a n)])) := by
  refine en0 27 Tryz.func154 ?_
  refine sg (cons (box (E := eAddr) (.t rfl) (fun b1 => ?_)))
  refine cons (alloc z109 (fun b2 => ?_))
  refine co (Ev.assign (.c (v := I 0) rfl)) ?_
  refine nP (seq (sg (co (Ev.ldx a ty45 (.t rfl) (Lens.id _)) ?_)))
  refine cons (callv en85 (.cons (.t rfl) .nil) (fun w I => checkA_ok _ w) ?_)
  refine asn rfl (nP (sg (mv rfl (co (Ev.neq_i (.t rfl) (.c (v := I 0) rfl)) ?_))))
  refine nP ?_
  first | refine condD rfl (fun h0 => ?_) (fun h0 => ?_) | refine cond rfl (fun h0 => ?_) (fun h0 => ?_)
  · try simp only [nb] at h0
    refine sg (co (Ev.buildS (fs := _) (places := [(0, 17), (17, 1)]) z109 rfl Tryz.underlying109 zk .nil Fills.nil) ?_)
    refine mv rfl (cons (stv ty109 (Lens.id _) (.t rfl) (.t rfl) ?_))
    refine asn rfl (nP (ret (pR (done rfl (.cell rfl (fun w I => run_loadVar_pts ty109 (ptsVar zm (Lens.id _) w I)) (.tmp rfl .nil)) (retE ?_)))))
    have hc : checkA a ≠ 0 := h0
    have e1 : ofE a n = checkA a := by unfold ofE; rw [if_pos hc]
    have e2 : ofV a n = ePrefix.zero := by unfold ofV; rw [e1, if_neg hc]
    rw [e1, e2]; rfl
  · try simp only [nb] at h0
    refine skip (pN (seq (sg (mv rfl (co (Ev.lss_i (.t rfl) (.c (v := I 0) rfl)) ?_)))))
    refine mv rfl (cg rfl rfl (Ev.move (.t rfl)) ?_)
    refine cg rfl rfl (Ev.ldx a ty45 (.t rfl) (Lens.id _)) ?_
    refine cons (callg rfl rfl en103 (.cons (.g rfl id) .nil) (fun hg w I => width_ok _ w) ?_)
    refine cg rfl rfl (Ev.gtr_i (.g rfl id) (.g rfl id)) ?_
    refine co (Ev.pkO (.t rfl) rfl) ?_
    refine nP ?_
    first | refine condD rfl (fun h1 => ?_) (fun h1 => ?_) | refine cond rfl (fun h1 => ?_) (fun h1 => ?_)
    · refine sg (co (Ev.buildS (fs := _) (places := [(0, 17), (17, 1)]) z109 rfl Tryz.underlying109 zk .nil Fills.nil) ?_)
      refine cons (stv ty109 (Lens.id _) (.t rfl) (.t rfl) ?_)
      refine co (Ev.assign (.c (v := I 151) rfl)) ?_
      refine nP (ret (pR (done rfl (.cell rfl (fun w I => run_loadVar_pts ty109 (ptsVar zm (Lens.id _) w I)) (.tmp rfl .nil)) (retE ?_))))
      have hc : checkA a = 0 := Decidable.not_not.1 h0
      have hb : n < 0 ∨ wd a < n := by simpa using h1
      have e1 : ofE a n = 151 := by unfold ofE; rw [if_neg (by rw [hc]; decide), if_pos hb]
      have e2 : ofV a n = ePrefix.zero := by unfold ofV; rw [e1, if_neg (by decide)]
      rw [e1, e2]; rfl
    · refine skip (pN (seq ?_))
      obtain ⟨z, hz⟩ : ∃ z, maskV n a.b = z := ⟨_, rfl⟩
      refine region (co (Ev.ldx a ty45 (.t rfl) (Lens.id _)) ?_)
      refine mv rfl (cons (callv en104 (.cons (.t rfl) (.cons (.t rfl) .nil)) (fun w I => masked_g _ _ w (by have := wd_le a; simp at h1; omega) z hz) ?_))
      refine mv rfl (co (Ev.buildS (fs := _) (places := [(0, 17), (17, 1)]) z109 rfl Tryz.underlying109 zk (.cons (.t rfl) (.cons (.t rfl) .nil)) (Fills.cons SPrefix.l_addr rfl (Fills.cons SPrefix.l_bits rfl Fills.nil))) ?_)
      refine cons (stv ty109 (Lens.id _) (.t rfl) (.t rfl) ?_)
      refine co (Ev.assign (.c (v := I 0) rfl)) ?_
      refine nP (ret (done rfl (.cell rfl (fun w I => run_loadVar_pts ty109 (ptsVar zm (Lens.id _) w I)) (.tmp rfl .nil)) (retE ?_)))
      have hc : checkA a = 0 := Decidable.not_not.1 h0
      have hb : ¬ (n < 0 ∨ wd a < n) := by simpa using h1
      have e1 : ofE a n = 0 := by unfold ofE; rw [if_neg (by rw [hc]; decide), if_neg hb]
      have e2 : ofV a n = ⟨⟨a.v6, maskV n a.b⟩, n⟩ := by unfold ofV; rw [e1, if_pos rfl]
      rw [e1, e2, hz]; rfl
theorem of_g (a : SAddr) (n : Int) (w : World) (x : SPrefix) (e : Int) (hx : ofV a n = x) (he : ofE a n = e) : Calls Tryz.prog 154 #[eAddr.val a, I n] w (RetV w (.tuple #[ePrefix.val x, I e])) := by
  subst hx he
  exact of_ok a n w
theorem en145 : Gx.Enters Tryz.prog 145 := Gx.Enters.mk' zk
theorem en154 : Gx.Enters Tryz.prog 154 := Gx.Enters.mk' zk
theorem bI_inj {a b : Bool} (h : bI a = bI b) : a = b := by cases a <;> cases b <;> first | rfl | cases h
theorem both_ok_c (k : Bool) (p q : SPrefix) (w : World) (hp : okP k p) (hq : okP k q) : Calls Tryz.prog 144 #[ePrefix.val p, ePrefix.val q] w (RetV w (ePrefix.val (bothP p q))) := by
  have h1 := hp.nn
  have h2 := hq.nn
  refine en0 39 Tryz.func144 ?_
  refine sg (cons (box (E := ePrefix) (.t rfl) (fun b1 => ?_)))
  refine cons (box (E := ePrefix) (.t rfl) (fun b2 => ?_))
  refine cons (alloc z109 (fun b3 => ?_))
  refine nP (sg (co (Ev.assign (.c (v := I 0) rfl)) ?_))
  refine nP (seq (block (lp (X := Int) (fun x : Int => (0 ≤ x ∧ x ≤ p.bits ∧ x ≤ q.bits) ∧ (∀ i : Int, 0 ≤ i → i < x → bitU p.addr.b.toList i = bitU q.addr.b.toList i)) (fun x : Int => [dz, (2, true, .pointer (some ⟨b1, 0, none⟩)), (3, true, .pointer (some ⟨b2, 0, none⟩)), (4, true, .pointer (some ⟨b3, 0, none⟩)), (5, true, I x)]) (fun x : Int => [Var b3 ePrefix ePrefix.zero 109, Var b2 ePrefix q 109, Var b1 ePrefix p 109]) (fun x : Int => (p.bits - x).toNat) (0) ⟨?_, ?_⟩ (fun x hx => ?_))))
  · omega
  · intro i h1 h2; omega
  obtain ⟨n, rfl⟩ : ∃ y, y = x := ⟨x, rfl⟩
  obtain ⟨hn, hs⟩ : (0 ≤ n ∧ n ≤ p.bits ∧ n ≤ q.bits) ∧ (∀ i : Int, 0 ≤ i → i < n → bitU p.addr.b.toList i = bitU q.addr.b.toList i) := hx
  show Sat _ _ [dz, (2, true, .pointer (some ⟨b1, 0, none⟩)), (3, true, .pointer (some ⟨b2, 0, none⟩)), (4, true, .pointer (some ⟨b3, 0, none⟩)), (5, true, I n)] [Var b3 ePrefix ePrefix.zero 109, Var b2 ePrefix q 109, Var b1 ePrefix p 109]
  refine seq (seq (draw' zk ?_))
  refine tk 0 rfl (Ev.move (.t rfl)) ?_
  refine tk 1 rfl (fA 17 (.t rfl)) ?_
  refine tk 2 rfl (Ev.ldx p.bits ty3 (.t rfl) SPrefix.l_bits) ?_
  refine tk 3 rfl (Ev.lss_i (.t rfl) (.t rfl)) ?_
  refine tk 4 rfl (Ev.move (.t rfl)) ?_
  refine tkg 5 rfl rfl rfl (Ev.move (.t rfl)) ?_
  refine tkg 6 rfl rfl rfl (fA 17 (.t rfl)) ?_
  refine tkg 7 rfl rfl rfl (Ev.ldx q.bits ty3 (.g rfl id) SPrefix.l_bits) ?_
  refine tkg 8 rfl rfl rfl (Ev.lss_i (.g rfl id) (.g rfl id)) ?_
  refine tk 9 rfl (Ev.pkA (.t rfl) rfl) ?_
  refine tk 10 rfl (Ev.move (.t rfl)) ?_
  refine tkg 11 rfl rfl rfl (fA 0 (.t rfl)) ?_
  refine tkg 12 rfl rfl rfl (Ev.ldx p.addr ty45 (.g rfl id) SPrefix.l_addr) ?_
  refine tkg 13 rfl rfl rfl (Ev.move (.t rfl)) ?_
  refine tkg 15 rfl rfl rfl (fA 0 (.t rfl)) ?_
  refine tkg 16 rfl rfl rfl (Ev.ldx q.addr ty45 (.g rfl id) SPrefix.l_addr) ?_
  refine tkg 17 rfl rfl rfl (Ev.move (.t rfl)) ?_
  refine al1 14 rfl ((callg rfl rfl en145 (.cons (.g rfl id) (.cons (.g rfl id) .nil)) (fun hg w I => bit_ok _ _ w (by simp at hg; omega)) ?_))
  refine hdn (al1 18 rfl ((callg rfl rfl en145 (.cons (.g rfl id) (.cons (.g rfl id) .nil)) (fun hg w I => bit_ok _ _ w (by simp at hg; omega)) ?_)))
  refine hdn (tkg 19 rfl rfl rfl (Ev.eql_i (.g rfl id) (.g rfl id)) ?_)
  refine tk 20 rfl (Ev.pkA (.t rfl) rfl) ?_
  refine ovr (pN ?_)
  first | refine condD rfl (fun h0 => ?_) (fun h0 => ?_) | refine cond rfl (fun h0 => ?_) (fun h0 => ?_)
  · have hc : n < p.bits ∧ n < q.bits ∧ bI (decide (bitU p.addr.b.toList n = 1)) = bI (decide (bitU q.addr.b.toList n = 1)) := by simpa [and_assoc] using h0
    have hbit : bitU p.addr.b.toList n = bitU q.addr.b.toList n := dec_bit.1 (bI_inj hc.2.2)
    refine skip (pN (block (region (mv rfl (co (Ev.add_i (.t rfl) (.c (v := I 1) rfl) (fun _ => zo)) ?_)))))
    refine asn rfl (nil (bN (pN (nx (X := Int) (n + 1) ⟨?_, ?_⟩ ?_))))
    · try dsimp only
      omega
    · try dsimp only
      intro i i0 i1
      by_cases e : i < n
      · exact hs i i0 e
      · obtain rfl : i = n := by omega
        exact hbit
    · try dsimp only
      omega
  · have hc : n < p.bits → n < q.bits → ¬ bI (decide (bitU p.addr.b.toList n = 1)) = bI (decide (bitU q.addr.b.toList n = 1)) := by simpa using h0
    obtain rfl : n = comN p q := comN_of hp hq hn.1 hn.2.1 hn.2.2 hs (fun l1 l2 e => hc l1 l2 (by rw [dec_bit.2 e]))
    have eE : ofE p.addr (comN p q) = 0 := by unfold ofE; rw [if_neg (by rw [checkP_addr p hp.1]; decide), if_neg (by omega)]
    have eV : ofV p.addr (comN p q) = bothP p q := by unfold ofV; rw [eE, if_pos rfl]; rfl
    obtain ⟨z, hz⟩ : ∃ z, bothP p q = z := ⟨_, rfl⟩
    refine exit (pX (pX (bX (pN (sg (co (fA 0 (.t rfl)) ?_))))))
    refine co (Ev.ldx p.addr ty45 (.t rfl) SPrefix.l_addr) ?_
    refine mv rfl (cons (callv en154 (.cons (.t rfl) (.cons (.t rfl) .nil)) (fun w I => of_g _ _ w z 0 (eV.trans hz) eE) ?_))
    refine mv rfl (co (Ev.extract (.t rfl) rfl) (co (Ev.extract (.t rfl) rfl) (cons (alloc z109 (fun b4 => ?_)))))
    refine cons (stv ty109 (Lens.id _) (.t rfl) (.t rfl) ?_)
    refine asn rfl (nP (sg (co (Ev.ldv ty109 (.t rfl) (Lens.id _)) ?_)))
    refine cons (stv ty109 (Lens.id _) (.t rfl) (.t rfl) ?_)
    refine nP (ret (done rfl (.cell rfl (fun w I => run_loadVar_pts ty109 (ptsVar zm (Lens.id _) w I)) .nil) (retE ?_)))
    rw [hz]; first | rfl | (simp; done)
end Go.Proofs.YtakmoeladkajdaaGreat.Tri
