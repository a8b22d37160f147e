/- Part. -/
import Derived.Test.YtmdkmclgfgaahaaM1
set_option linter.unusedVariables false
set_option linter.unusedSimpArgs false
set_option linter.unusedSectionVars false
namespace Go.Proofs.Ytmdkmclgfgaahaa
open Go Go.Gx
structure SConfFaults where
  l : OV
  at_ : Int
def SConfFaults.to : (OV × Int) → SConfFaults := fun x => ⟨x.1, x.2⟩
def SConfFaults.of : SConfFaults → (OV × Int) := fun x => (x.l, x.at_)
def eConfFaults : Enc SConfFaults := isoE (prodE (ovE nilSl) iE) SConfFaults.to SConfFaults.of
def SConfFaults.l_l : Lens eConfFaults (ovE nilSl) 0 := lIso _ SConfFaults.to SConfFaults.of (fun _ => rfl) (lFst (ovE nilSl) iE)
@[simp] theorem SConfFaults.get_l (x : SConfFaults) : SConfFaults.l_l.get x = x.l := rfl
@[simp] theorem SConfFaults.set_l (x : SConfFaults) (y : OV) : SConfFaults.l_l.set x y = { x with l := y } := rfl
def SConfFaults.l_at_ : Lens eConfFaults iE 1 := lIso _ SConfFaults.to SConfFaults.of (fun _ => rfl) (Lens.comp (lSnd (ovE nilSl) iE) (Lens.id iE))
@[simp] theorem SConfFaults.get_at_ (x : SConfFaults) : SConfFaults.l_at_.get x = x.at_ := rfl
@[simp] theorem SConfFaults.set_at_ (x : SConfFaults) (y : Int) : SConfFaults.l_at_.set x y = { x with at_ := y } := rfl
structure SFault where
  code : Int
  at_ : Int
def SFault.to : (Int × Int) → SFault := fun x => ⟨x.1, x.2⟩
def SFault.of : SFault → (Int × Int) := fun x => (x.code, x.at_)
def eFault : Enc SFault := isoE (prodE iE iE) SFault.to SFault.of
def SFault.l_code : Lens eFault iE 0 := lIso _ SFault.to SFault.of (fun _ => rfl) (lFst iE iE)
@[simp] theorem SFault.get_code (x : SFault) : SFault.l_code.get x = x.code := rfl
@[simp] theorem SFault.set_code (x : SFault) (y : Int) : SFault.l_code.set x y = { x with code := y } := rfl
def SFault.l_at_ : Lens eFault iE 1 := lIso _ SFault.to SFault.of (fun _ => rfl) (Lens.comp (lSnd iE iE) (Lens.id iE))
@[simp] theorem SFault.get_at_ (x : SFault) : SFault.l_at_.get x = x.at_ := rfl
@[simp] theorem SFault.set_at_ (x : SFault) (y : Int) : SFault.l_at_.set x y = { x with at_ := y } := rfl
def faultsUp (e : Nat → Int) (d : Int) : Nat → List SFault
  | 0 => []
  | n + 1 => faultsUp e d n ++ (if e n = 0 then [] else [⟨e n, d + n⟩])
theorem faultsUp_len (e : Nat → Int) (d : Int) : ∀ n, (faultsUp e d n).length ≤ n
  | 0 => Nat.le_refl _
  | n + 1 => by
    have := faultsUp_len e d n
    unfold faultsUp
    rw [List.length_append]
    split <;> simp <;> omega
theorem faultsUp_ok {e : Nat → Int} {d i : Int} (h : 0 ≤ i) (he : e i.toNat = 0) : faultsUp e d (i + 1).toNat = faultsUp e d i.toNat := by
  rw [show (i + 1).toNat = i.toNat + 1 by omega, faultsUp, if_pos he, List.append_nil]
theorem faultsUp_bad {e : Nat → Int} {d i : Int} (h : 0 ≤ i) (he : ¬ e i.toNat = 0) : faultsUp e d (i + 1).toNat = faultsUp e d i.toNat ++ [⟨e i.toNat, d + i⟩] := by
  rw [show (i + 1).toNat = i.toNat + 1 by omega, faultsUp, if_neg he]
  have : ((i.toNat : Nat) : Int) = i := by omega
  rw [this]
def listG (e : Nat → Int) (d : Int) (n most : Nat) : List SFault := faultsUp e d (min n most) ++ (if most < n then [⟨4, d + most⟩] else [])
abbrev FR (b : Nat) (o : OV) (fs : List SFault) (d : Int) : Res := Sep (Var b eConfFaults ⟨o, d⟩ 159) (OwnS o.v eFault fs 171)
theorem getD_take'' {α : Type} (l : List α) (m i : Nat) (d : α) (h : i < m) : (l.take m).getD i d = l.getD i d := by simp [List.getD, List.getElem?_take, h]
theorem ty120 : TyOK Try.prog 120 (ovE nilSl) := TyOK.mk' (by kernel_rfl) (by kernel_rfl)
theorem z171 : (Try.prog.info? 171).bind (·.zero) = some (eFault.val eFault.zero) := by kernel_rfl
theorem ty171 : TyOK Try.prog 171 eFault := TyOK.mk' (by kernel_rfl) (by kernel_rfl)
theorem zb171 : (Try.prog.info? 171).map (fun i => (i.zero, i.bytes)) = some (some (eFault.val eFault.zero), 16) := by kernel_rfl
theorem zs171 : (eFault.val eFault.zero).cells.size = eFault.size := by rw [Enc.cells_val, List.size_toArray, Enc.len]
theorem list_3 (f : Nat) (fst cap : List Value) (g : Int → Int → Int) (D : Int → Int → Prop) (b : Nat) (o : OV) (fs : List SFault) (d : Int) (u : Value) (xs : List Int) (most : Nat) (w : World) (hen : Gx.Enters Try.prog f) (h : At (FR b o fs d) w) (hxs : ∀ w1, Keeps (FR b o fs d).foot w w1 → IsSl iE w1 u xs) (hk : FnB2 Try.prog f fst cap (FR b o fs d).foot w iE iE iE D g) (hD : ∀ i : Nat, i < xs.length → D (xs.getD i iE.zero) i) (hd : 0 ≤ d ∧ d + xs.length ≤ 4611686018427387904) (hf : fs.length + most ≤ 100000) : Calls Try.prog 65 #[.pointer (some ⟨b, 0, none⟩), u, I most, (bnd f fst cap).v] w (RetR w (FR b o fs d) (fun _ : OV => True) (fun _ => .tuple #[]) (fun o2 => FR b o2 (fs ++ listG (fun j0 : Nat => g (xs.getD j0 iE.zero) j0) d xs.length most) (d + xs.length))) := by
  obtain ⟨m, hm⟩ : ∃ m : Nat, (min (xs.length : Int) (most : Int)) = (m : Int) := ⟨min xs.length most, by omega⟩
  have hm2 : m = min xs.length most := by omega
  have hle := (hxs w (Keeps.refl _ _)).le
  have htl : (xs.take m).length = m := by simp; omega
  refine enter (FR b o fs d).foot 76 [FR b o fs d] Try.func65 rfl rfl (Nat.le_of_ble_eq_true rfl) (start_at h) ?_
  refine sepOut Rem.head ?_
  refine seq (sg (mv rfl (mv rfl (co (Ev.len Try.underlying22 (.t rfl) (fun w I => hxs w I.keeps)) ?_))))
  refine mv rfl (co (Ev.to (v' := I ((m : Nat) : Int)) (Ev.min_i (.t rfl) (.t rfl)) (by rw [hm])) ?_)
  refine co (Ev.sliceH Try.underlying22 ty3 (.t rfl) (.t rfl) (fun w I => hxs w I.keeps) (fun _ => by omega)) ?_
  refine co (Ev.len Try.underlying22 (.t rfl) (fun w I => by have := (hxs w I.keeps).sub (l := 0) (k := m) (by omega) (by omega); simpa using this)) ?_
  refine co (Ev.move (.c (v := I 0) rfl)) ?_
  refine nP (block (lp (X := Int × OV) (fun x : Int × OV => (0 ≤ x.1 ∧ x.1 ≤ m)) (fun x : Int × OV => [dz, (0, true, .pointer (some ⟨b, 0, none⟩)), (1, true, u), (2, true, I most), (3, true, (bnd f fst cap).v), (16, true, subS iE.size u 0 m), (17, true, I (xs.take m).length), (18, true, I x.1)]) (fun x : Int × OV => [Var b eConfFaults ⟨x.2, d⟩ 159, OwnS x.2.v eFault (fs ++ faultsUp (fun j0 : Nat => g (xs.getD j0 iE.zero) j0) d x.1.toNat) 171]) (fun x : Int × OV => ((m : Int) - x.1).toNat) (0, o) ?_ (fun x hx => ?_) (hL := (by simp only [show (0 : Int).toNat = 0 from rfl, faultsUp, List.append_nil]; repeat first | exact sR | exact sN | apply sC | apply sS | apply sA))))
  · omega
  obtain ⟨i, q⟩ := x
  have hi : 0 ≤ i ∧ i ≤ m := hx
  clear hx
  show Sat _ _ [dz, (0, true, .pointer (some ⟨b, 0, none⟩)), (1, true, u), (2, true, I most), (3, true, (bnd f fst cap).v), (16, true, subS iE.size u 0 m), (17, true, I (xs.take m).length), (18, true, I i)] [Var b eConfFaults ⟨q, d⟩ 159, OwnS q.v eFault (fs ++ faultsUp (fun j0 : Nat => g (xs.getD j0 iE.zero) j0) d i.toNat) 171]
  refine sg (co (Ev.lss_i (.t rfl) (.t rfl)) ?_)
  refine nP (seq ?_)
  first | refine condD rfl (fun h0 => ?_) (fun h0 => ?_) | refine cond rfl (fun h0 => ?_) (fun h0 => ?_)
  · try simp only [Gx.nb] at h0
    refine skip (pN (seq (block (sg (mv rfl (co (Ev.indexAddr Try.underlying22 ty3 (.t rfl) (.t rfl) (fun w I => by have := (hxs w I.keeps).sub (l := 0) (k := m) (by omega) (by omega); simpa using this) (fun _ => by omega)) ?_))))))
    refine co (Ev.to (v' := iE.val (xs.getD i.toNat iE.zero)) (Ev.loadS0 ty3 (.t rfl) (fun w I => by have := (hxs w I.keeps).sub (l := 0) (k := m) (by omega) (by omega); simpa using this) (fun _ => by omega)) (congrArg iE.val (getD_take'' xs m i.toNat _ (by omega)))) ?_
    refine asn rfl (asn rfl (nP (sg (mv rfl (mv rfl (mv rfl (cons (callbv (.t rfl) hen (.cons (.t rfl) (.cons (.t rfl) .nil)) (fun w I => hk (xs.getD i.toNat iE.zero) i w (by have := hD i.toNat (by omega); rwa [show ((i.toNat : Nat) : Int) = i by omega] at this) I.keeps) ?_))))))))
    refine asn rfl (nP (sg (mv rfl (co (Ev.neq_i (.t rfl) (.c (v := I 0) rfl)) ?_))))
    refine nP ?_
    first | refine condD rfl (fun h1 => ?_) (fun h1 => ?_) | refine cond rfl (fun h1 => ?_) (fun h1 => ?_)
    · try simp only [Gx.nb] at h1
      have ei : ((i.toNat : Nat) : Int) = i := by omega
      have hst := faultsUp_bad (e := (fun j0 : Nat => g (xs.getD j0 iE.zero) j0)) (d := d) hi.1 (by (try dsimp only); rw [ei]; exact h1)
      (try dsimp only at hst)
      rw [ei] at hst
      refine draw [] (by kernel_rfl) ?_
      refine tk 0 rfl (Ev.move (.t rfl)) ?_
      refine tk 1 rfl (Ev.move (.t rfl)) ?_
      refine tk 2 rfl (Ev.nilCheck (.t rfl)) ?_
      refine tk 3 rfl (fA 0 (.t rfl)) ?_
      refine tk 5 rfl (Ev.move (.t rfl)) ?_
      refine tk 6 rfl (Ev.move (.t rfl)) ?_
      refine tk 7 rfl (Ev.nilCheck (.t rfl)) ?_
      refine tk 8 rfl (fA 1 (.t rfl)) ?_
      refine tk 10 rfl (Ev.move (.t rfl)) ?_
      refine all [4, 9] (by kernel_rfl) (by decide) (.cons rfl ?_ (.cons rfl ?_ .nil))
      · refine (opv (Ev.ldv ty120 (.t rfl) SConfFaults.l_l) ?_)
        refine hdn (al1 9 rfl ((opv (Ev.ldv ty3 (.t rfl) SConfFaults.l_at_) ?_)))
        refine hdn (tk 11 rfl (Ev.add_i (.t rfl) (.t rfl) (fun _ => by simp; omega)) ?_)
        refine tk 12 rfl (Ev.buildS (fs := _) (places := [(0, 1), (1, 1)]) z171 rfl Try.underlying171 (by kernel_rfl) (.cons (.t rfl) (.cons (.t rfl) .nil)) (Fills.cons SFault.l_code rfl (Fills.cons SFault.l_at_ rfl Fills.nil))) ?_
        refine al1 13 rfl ((buildSlice (E := eFault) Try.underlying120 ty171 z171 (.cons (.t rfl) .nil) rfl rfl (fun v1 => ?_)))
        refine hdn (al1 14 rfl ((app (E := eFault) Try.underlying120 ty171 zb171 zs171 (.t rfl) (.t rfl) (fun v2 => ?_) (hby := ⟨by (show _ ≤ 9223372036854775807); have := faultsUp_len (fun j0 : Nat => g (xs.getD j0 iE.zero) j0) d i.toNat; simp only [List.length_append, List.length_cons, List.length_nil]; omega, by have := faultsUp_len (fun j0 : Nat => g (xs.getD j0 iE.zero) j0) d i.toNat; simp only [List.length_append, List.length_cons, List.length_nil]; omega⟩))))
        refine hdn (tk 15 rfl (Ev.nilCheck (.t rfl)) ?_)
        refine tk 16 rfl (fA 0 (.t rfl)) ?_
        refine al1 17 rfl ((stv ty120 SConfFaults.l_l (.t rfl) (.t rfl) ?_))
        refine hdn (ovr (bN (pN (region (co (Ev.add_i (.t rfl) (.c (v := I 1) rfl) (fun _ => by omega)) ?_)))))
        refine mv rfl (nP (nx (X := Int × OV) (i + 1, _) ?_ ?_ (hL := (by rw [hst]; (try rw [← List.append_assoc]); repeat first | exact sR | exact sN | apply sC | apply sS | apply sA))))
        · try dsimp only
          omega
        · try dsimp only
          omega
      · refine (opv (Ev.ldv ty3 (.t rfl) SConfFaults.l_at_) ?_)
        refine hdn (tk 11 rfl (Ev.add_i (.t rfl) (.t rfl) (fun _ => by simp; omega)) ?_)
        refine tk 12 rfl (Ev.buildS (fs := _) (places := [(0, 1), (1, 1)]) z171 rfl Try.underlying171 (by kernel_rfl) (.cons (.t rfl) (.cons (.t rfl) .nil)) (Fills.cons SFault.l_code rfl (Fills.cons SFault.l_at_ rfl Fills.nil))) ?_
        refine all [4, 13] (by kernel_rfl) (by decide) (.cons rfl ?_ (.cons rfl ?_ .nil))
        · refine (opv (Ev.ldv ty120 (.t rfl) SConfFaults.l_l) ?_)
          refine hdn (al1 13 rfl ((buildSlice (E := eFault) Try.underlying120 ty171 z171 (.cons (.t rfl) .nil) rfl rfl (fun v3 => ?_))))
          refine hdn (al1 14 rfl ((app (E := eFault) Try.underlying120 ty171 zb171 zs171 (.t rfl) (.t rfl) (fun v4 => ?_) (hby := ⟨by (show _ ≤ 9223372036854775807); have := faultsUp_len (fun j0 : Nat => g (xs.getD j0 iE.zero) j0) d i.toNat; simp only [List.length_append, List.length_cons, List.length_nil]; omega, by have := faultsUp_len (fun j0 : Nat => g (xs.getD j0 iE.zero) j0) d i.toNat; simp only [List.length_append, List.length_cons, List.length_nil]; omega⟩))))
          refine hdn (tk 15 rfl (Ev.nilCheck (.t rfl)) ?_)
          refine tk 16 rfl (fA 0 (.t rfl)) ?_
          refine al1 17 rfl ((stv ty120 SConfFaults.l_l (.t rfl) (.t rfl) ?_))
          refine hdn (ovr (bN (pN (region (co (Ev.add_i (.t rfl) (.c (v := I 1) rfl) (fun _ => by omega)) ?_)))))
          refine mv rfl (nP (nx (X := Int × OV) (i + 1, _) ?_ ?_ (hL := (by rw [hst]; (try rw [← List.append_assoc]); repeat first | exact sR | exact sN | apply sC | apply sS | apply sA))))
          · try dsimp only
            omega
          · try dsimp only
            omega
        · refine (buildSlice (E := eFault) Try.underlying120 ty171 z171 (.cons (.t rfl) .nil) rfl rfl (fun v5 => ?_))
          refine hdn (al1 4 rfl ((opv (Ev.ldv ty120 (.t rfl) SConfFaults.l_l) ?_)))
          refine hdn (al1 14 rfl ((app (E := eFault) Try.underlying120 ty171 zb171 zs171 (.t rfl) (.t rfl) (fun v6 => ?_) (hby := ⟨by (show _ ≤ 9223372036854775807); have := faultsUp_len (fun j0 : Nat => g (xs.getD j0 iE.zero) j0) d i.toNat; simp only [List.length_append, List.length_cons, List.length_nil]; omega, by have := faultsUp_len (fun j0 : Nat => g (xs.getD j0 iE.zero) j0) d i.toNat; simp only [List.length_append, List.length_cons, List.length_nil]; omega⟩))))
          refine hdn (tk 15 rfl (Ev.nilCheck (.t rfl)) ?_)
          refine tk 16 rfl (fA 0 (.t rfl)) ?_
          refine al1 17 rfl ((stv ty120 SConfFaults.l_l (.t rfl) (.t rfl) ?_))
          refine hdn (ovr (bN (pN (region (co (Ev.add_i (.t rfl) (.c (v := I 1) rfl) (fun _ => by omega)) ?_)))))
          refine mv rfl (nP (nx (X := Int × OV) (i + 1, _) ?_ ?_ (hL := (by rw [hst]; (try rw [← List.append_assoc]); repeat first | exact sR | exact sN | apply sC | apply sS | apply sA))))
          · try dsimp only
            omega
          · try dsimp only
            omega
    · try simp only [Gx.nb] at h1
      have ei : ((i.toNat : Nat) : Int) = i := by omega
      have hst := faultsUp_ok (e := (fun j0 : Nat => g (xs.getD j0 iE.zero) j0)) (d := d) hi.1 (by (try dsimp only); rw [ei]; exact h1)
      refine skip (bN (pN (region (co (Ev.add_i (.t rfl) (.c (v := I 1) rfl) (fun _ => by omega)) ?_))))
      refine mv rfl (nP (nx (X := Int × OV) (i + 1, _) ?_ ?_ (hL := (by rw [hst]; (try rw [← List.append_assoc]); repeat first | exact sR | exact sN | apply sC | apply sS | apply sA))))
      · try dsimp only
        omega
      · try dsimp only
        omega
  · try simp only [Gx.nb] at h0
    refine exit (pX (pX (bX (pN (cut (X := OV) (fun x : OV => True) (fun x : OV => [dz, (0, true, .pointer (some ⟨b, 0, none⟩)), (1, true, u)]) (fun x : OV => [Var b eConfFaults ⟨x, d⟩ 159, OwnS x.v eFault (fs ++ listG (fun j0 : Nat => g (xs.getD j0 iE.zero) j0) d xs.length most) 171]) ?_ (fun x hx => ?_))))))
    · refine sg ?_
      have him : i.toNat = m := by omega
      rw [him]
      refine mv rfl (co (Ev.len Try.underlying22 (.t rfl) (fun w I => hxs w I.keeps)) ?_)
      refine mv rfl (co (Ev.gtr_i (.t rfl) (.t rfl)) ?_)
      refine nP ?_
      first | refine condD rfl (fun h2 => ?_) (fun h2 => ?_) | refine cond rfl (fun h2 => ?_) (fun h2 => ?_)
      · try simp only [Gx.nb] at h2
        refine draw [] (by kernel_rfl) ?_
        refine tk 0 rfl (Ev.move (.t rfl)) ?_
        refine tk 1 rfl (Ev.move (.t rfl)) ?_
        refine tk 2 rfl (Ev.nilCheck (.t rfl)) ?_
        refine tk 3 rfl (fA 0 (.t rfl)) ?_
        refine tk 5 rfl (Ev.move (.t rfl)) ?_
        refine tk 6 rfl (Ev.nilCheck (.t rfl)) ?_
        refine tk 7 rfl (fA 1 (.t rfl)) ?_
        refine tk 9 rfl (Ev.move (.t rfl)) ?_
        refine all [4, 8] (by kernel_rfl) (by decide) (.cons rfl ?_ (.cons rfl ?_ .nil))
        · refine (opv (Ev.ldv ty120 (.t rfl) SConfFaults.l_l) ?_)
          refine hdn (al1 8 rfl ((opv (Ev.ldv ty3 (.t rfl) SConfFaults.l_at_) ?_)))
          refine hdn (tk 10 rfl (Ev.add_i (.t rfl) (.t rfl) (fun _ => by simp; omega)) ?_)
          refine tk 11 rfl (Ev.buildS (fs := _) (places := [(0, 1), (1, 1)]) z171 rfl Try.underlying171 (by kernel_rfl) (.cons (.c (v := I 4) rfl) (.cons (.t rfl) .nil)) (Fills.cons SFault.l_code rfl (Fills.cons SFault.l_at_ rfl Fills.nil))) ?_
          refine al1 12 rfl ((buildSlice (E := eFault) Try.underlying120 ty171 z171 (.cons (.t rfl) .nil) rfl rfl (fun v7 => ?_)))
          refine hdn (al1 13 rfl ((app (E := eFault) Try.underlying120 ty171 zb171 zs171 (.t rfl) (.t rfl) (fun v8 => ?_) (hby := ⟨by (show _ ≤ 9223372036854775807); have := faultsUp_len (fun j0 : Nat => g (xs.getD j0 iE.zero) j0) d m; simp only [List.length_append, List.length_cons, List.length_nil]; omega, by have := faultsUp_len (fun j0 : Nat => g (xs.getD j0 iE.zero) j0) d m; simp only [List.length_append, List.length_cons, List.length_nil]; omega⟩))))
          refine hdn (tk 14 rfl (Ev.nilCheck (.t rfl)) ?_)
          refine tk 15 rfl (fA 0 (.t rfl)) ?_
          refine al1 16 rfl ((stv ty120 SConfFaults.l_l (.t rfl) (.t rfl) ?_))
          refine hdn (ovr (pN (mt (X := OV) (_) trivial (hL := (by unfold listG; rw [← hm2]; (first | rw [if_pos (by omega), ← List.append_assoc] | rw [if_neg (by omega), List.append_nil]); repeat first | exact sR | exact sN | apply sC | apply sS | apply sA)))))
        · refine (opv (Ev.ldv ty3 (.t rfl) SConfFaults.l_at_) ?_)
          refine hdn (tk 10 rfl (Ev.add_i (.t rfl) (.t rfl) (fun _ => by simp; omega)) ?_)
          refine tk 11 rfl (Ev.buildS (fs := _) (places := [(0, 1), (1, 1)]) z171 rfl Try.underlying171 (by kernel_rfl) (.cons (.c (v := I 4) rfl) (.cons (.t rfl) .nil)) (Fills.cons SFault.l_code rfl (Fills.cons SFault.l_at_ rfl Fills.nil))) ?_
          refine all [4, 12] (by kernel_rfl) (by decide) (.cons rfl ?_ (.cons rfl ?_ .nil))
          · refine (opv (Ev.ldv ty120 (.t rfl) SConfFaults.l_l) ?_)
            refine hdn (al1 12 rfl ((buildSlice (E := eFault) Try.underlying120 ty171 z171 (.cons (.t rfl) .nil) rfl rfl (fun v9 => ?_))))
            refine hdn (al1 13 rfl ((app (E := eFault) Try.underlying120 ty171 zb171 zs171 (.t rfl) (.t rfl) (fun v10 => ?_) (hby := ⟨by (show _ ≤ 9223372036854775807); have := faultsUp_len (fun j0 : Nat => g (xs.getD j0 iE.zero) j0) d m; simp only [List.length_append, List.length_cons, List.length_nil]; omega, by have := faultsUp_len (fun j0 : Nat => g (xs.getD j0 iE.zero) j0) d m; simp only [List.length_append, List.length_cons, List.length_nil]; omega⟩))))
            refine hdn (tk 14 rfl (Ev.nilCheck (.t rfl)) ?_)
            refine tk 15 rfl (fA 0 (.t rfl)) ?_
            refine al1 16 rfl ((stv ty120 SConfFaults.l_l (.t rfl) (.t rfl) ?_))
            refine hdn (ovr (pN (mt (X := OV) (_) trivial (hL := (by unfold listG; rw [← hm2]; (first | rw [if_pos (by omega), ← List.append_assoc] | rw [if_neg (by omega), List.append_nil]); repeat first | exact sR | exact sN | apply sC | apply sS | apply sA)))))
          · refine (buildSlice (E := eFault) Try.underlying120 ty171 z171 (.cons (.t rfl) .nil) rfl rfl (fun v11 => ?_))
            refine hdn (al1 4 rfl ((opv (Ev.ldv ty120 (.t rfl) SConfFaults.l_l) ?_)))
            refine hdn (al1 13 rfl ((app (E := eFault) Try.underlying120 ty171 zb171 zs171 (.t rfl) (.t rfl) (fun v12 => ?_) (hby := ⟨by (show _ ≤ 9223372036854775807); have := faultsUp_len (fun j0 : Nat => g (xs.getD j0 iE.zero) j0) d m; simp only [List.length_append, List.length_cons, List.length_nil]; omega, by have := faultsUp_len (fun j0 : Nat => g (xs.getD j0 iE.zero) j0) d m; simp only [List.length_append, List.length_cons, List.length_nil]; omega⟩))))
            refine hdn (tk 14 rfl (Ev.nilCheck (.t rfl)) ?_)
            refine tk 15 rfl (fA 0 (.t rfl)) ?_
            refine al1 16 rfl ((stv ty120 SConfFaults.l_l (.t rfl) (.t rfl) ?_))
            refine hdn (ovr (pN (mt (X := OV) (_) trivial (hL := (by unfold listG; rw [← hm2]; (first | rw [if_pos (by omega), ← List.append_assoc] | rw [if_neg (by omega), List.append_nil]); repeat first | exact sR | exact sN | apply sC | apply sS | apply sA)))))
      · try simp only [Gx.nb] at h2
        refine skip (pN (mt (X := OV) (_) trivial (hL := (by unfold listG; rw [← hm2]; (first | rw [if_pos (by omega), ← List.append_assoc] | rw [if_neg (by omega), List.append_nil]); repeat first | exact sR | exact sN | apply sC | apply sS | apply sA))))
    obtain ⟨q2, rfl⟩ : ∃ y, y = x := ⟨x, rfl⟩
    show Sat _ _ [dz, (0, true, .pointer (some ⟨b, 0, none⟩)), (1, true, u)] [Var b eConfFaults ⟨q2, d⟩ 159, OwnS q2.v eFault (fs ++ listG (fun j0 : Nat => g (xs.getD j0 iE.zero) j0) d xs.length most) 171]
    refine region (mv rfl (co (Ev.nilCheck (.t rfl)) ?_))
    refine co (fA 1 (.t rfl)) ?_
    refine co (Ev.ldv ty3 (.t rfl) SConfFaults.l_at_) ?_
    refine mv rfl (co (Ev.len Try.underlying22 (.t rfl) (fun w I => hxs w I.keeps)) ?_)
    refine co (Ev.add_i (.t rfl) (.t rfl) (fun _ => by simp; omega)) ?_
    refine co (Ev.nilCheck (.t rfl)) ?_
    refine co (fA 1 (.t rfl)) ?_
    refine cons (stv ty3 SConfFaults.l_at_ (.t rfl) (.t rfl) ?_)
    refine nil (done' rfl .nil (fun w I => ?_))
    exact retR (r' := fun o2 => FR b o2 (fs ++ listG (fun j0 : Nat => g (xs.getD j0 iE.zero) j0) d xs.length most) (d + xs.length)) _ trivial rfl (List.mem_singleton_self _) w (WInv.sepIn (I.sub (by repeat first | exact sR | exact sN | apply sC | apply sS | apply sA)))
theorem list_60 (f : Nat) (fst cap : List Value) (g : SRoute → Int → Int) (D : SRoute → Int → Prop) (b : Nat) (o : OV) (fs : List SFault) (d : Int) (u : Value) (xs : List SRoute) (most : Nat) (w : World) (hen : Gx.Enters Try.prog f) (h : At (FR b o fs d) w) (hxs : ∀ w1, Keeps (FR b o fs d).foot w w1 → IsSl eRoute w1 u xs) (hk : FnB2 Try.prog f fst cap (FR b o fs d).foot w eRoute iE iE D g) (hD : ∀ i : Nat, i < xs.length → D (xs.getD i eRoute.zero) i) (hd : 0 ≤ d ∧ d + xs.length ≤ 4611686018427387904) (hf : fs.length + most ≤ 100000) : Calls Try.prog 67 #[.pointer (some ⟨b, 0, none⟩), u, I most, (bnd f fst cap).v] w (RetR w (FR b o fs d) (fun _ : OV => True) (fun _ => .tuple #[]) (fun o2 => FR b o2 (fs ++ listG (fun j0 : Nat => g (xs.getD j0 eRoute.zero) j0) d xs.length most) (d + xs.length))) := by
  obtain ⟨m, hm⟩ : ∃ m : Nat, (min (xs.length : Int) (most : Int)) = (m : Int) := ⟨min xs.length most, by omega⟩
  have hm2 : m = min xs.length most := by omega
  have hle := (hxs w (Keeps.refl _ _)).le
  have htl : (xs.take m).length = m := by simp; omega
  refine enter (FR b o fs d).foot 76 [FR b o fs d] Try.func67 rfl rfl (Nat.le_of_ble_eq_true rfl) (start_at h) ?_
  refine sepOut Rem.head ?_
  refine seq (sg (mv rfl (mv rfl (co (Ev.len Try.underlying23 (.t rfl) (fun w I => hxs w I.keeps)) ?_))))
  refine mv rfl (co (Ev.to (v' := I ((m : Nat) : Int)) (Ev.min_i (.t rfl) (.t rfl)) (by rw [hm])) ?_)
  refine co (Ev.sliceH Try.underlying23 ty60 (.t rfl) (.t rfl) (fun w I => hxs w I.keeps) (fun _ => by omega)) ?_
  refine co (Ev.len Try.underlying23 (.t rfl) (fun w I => by have := (hxs w I.keeps).sub (l := 0) (k := m) (by omega) (by omega); simpa using this)) ?_
  refine co (Ev.move (.c (v := I 0) rfl)) ?_
  refine nP (block (lp (X := Int × OV) (fun x : Int × OV => (0 ≤ x.1 ∧ x.1 ≤ m)) (fun x : Int × OV => [dz, (0, true, .pointer (some ⟨b, 0, none⟩)), (1, true, u), (2, true, I most), (3, true, (bnd f fst cap).v), (16, true, subS eRoute.size u 0 m), (17, true, I (xs.take m).length), (18, true, I x.1)]) (fun x : Int × OV => [Var b eConfFaults ⟨x.2, d⟩ 159, OwnS x.2.v eFault (fs ++ faultsUp (fun j0 : Nat => g (xs.getD j0 eRoute.zero) j0) d x.1.toNat) 171]) (fun x : Int × OV => ((m : Int) - x.1).toNat) (0, o) ?_ (fun x hx => ?_) (hL := (by simp only [show (0 : Int).toNat = 0 from rfl, faultsUp, List.append_nil]; repeat first | exact sR | exact sN | apply sC | apply sS | apply sA))))
  · omega
  obtain ⟨i, q⟩ := x
  have hi : 0 ≤ i ∧ i ≤ m := hx
  clear hx
  show Sat _ _ [dz, (0, true, .pointer (some ⟨b, 0, none⟩)), (1, true, u), (2, true, I most), (3, true, (bnd f fst cap).v), (16, true, subS eRoute.size u 0 m), (17, true, I (xs.take m).length), (18, true, I i)] [Var b eConfFaults ⟨q, d⟩ 159, OwnS q.v eFault (fs ++ faultsUp (fun j0 : Nat => g (xs.getD j0 eRoute.zero) j0) d i.toNat) 171]
  refine sg (co (Ev.lss_i (.t rfl) (.t rfl)) ?_)
  refine nP (seq ?_)
  first | refine condD rfl (fun h0 => ?_) (fun h0 => ?_) | refine cond rfl (fun h0 => ?_) (fun h0 => ?_)
  · try simp only [Gx.nb] at h0
    refine skip (pN (seq (block (sg (mv rfl (co (Ev.indexAddr Try.underlying23 ty60 (.t rfl) (.t rfl) (fun w I => by have := (hxs w I.keeps).sub (l := 0) (k := m) (by omega) (by omega); simpa using this) (fun _ => by omega)) ?_))))))
    refine co (Ev.to (v' := eRoute.val (xs.getD i.toNat eRoute.zero)) (Ev.loadS0 ty60 (.t rfl) (fun w I => by have := (hxs w I.keeps).sub (l := 0) (k := m) (by omega) (by omega); simpa using this) (fun _ => by omega)) (congrArg eRoute.val (getD_take'' xs m i.toNat _ (by omega)))) ?_
    refine cons (alloc z60 (fun b1 => ?_))
    refine asn rfl (cons (stv ty60 (Lens.id _) (.t rfl) (.t rfl) ?_))
    refine nP (sg (mv rfl (co (Ev.ldv ty60 (.t rfl) (Lens.id _)) ?_)))
    refine mv rfl (cons (callbv (.t rfl) hen (.cons (.t rfl) (.cons (.t rfl) .nil)) (fun w I => hk (xs.getD i.toNat eRoute.zero) i w (by have := hD i.toNat (by omega); rwa [show ((i.toNat : Nat) : Int) = i by omega] at this) I.keeps) ?_))
    refine asn rfl (nP (sg (mv rfl (co (Ev.neq_i (.t rfl) (.c (v := I 0) rfl)) ?_))))
    refine nP ?_
    first | refine condD rfl (fun h1 => ?_) (fun h1 => ?_) | refine cond rfl (fun h1 => ?_) (fun h1 => ?_)
    · try simp only [Gx.nb] at h1
      have ei : ((i.toNat : Nat) : Int) = i := by omega
      have hst := faultsUp_bad (e := (fun j0 : Nat => g (xs.getD j0 eRoute.zero) j0)) (d := d) hi.1 (by (try dsimp only); rw [ei]; exact h1)
      (try dsimp only at hst)
      rw [ei] at hst
      refine draw [] (by kernel_rfl) ?_
      refine tk 0 rfl (Ev.move (.t rfl)) ?_
      refine tk 1 rfl (Ev.move (.t rfl)) ?_
      refine tk 2 rfl (Ev.nilCheck (.t rfl)) ?_
      refine tk 3 rfl (fA 0 (.t rfl)) ?_
      refine tk 5 rfl (Ev.move (.t rfl)) ?_
      refine tk 6 rfl (Ev.move (.t rfl)) ?_
      refine tk 7 rfl (Ev.nilCheck (.t rfl)) ?_
      refine tk 8 rfl (fA 1 (.t rfl)) ?_
      refine tk 10 rfl (Ev.move (.t rfl)) ?_
      refine all [4, 9] (by kernel_rfl) (by decide) (.cons rfl ?_ (.cons rfl ?_ .nil))
      · refine (opv (Ev.ldv ty120 (.t rfl) SConfFaults.l_l) ?_)
        refine hdn (al1 9 rfl ((opv (Ev.ldv ty3 (.t rfl) SConfFaults.l_at_) ?_)))
        refine hdn (tk 11 rfl (Ev.add_i (.t rfl) (.t rfl) (fun _ => by simp; omega)) ?_)
        refine tk 12 rfl (Ev.buildS (fs := _) (places := [(0, 1), (1, 1)]) z171 rfl Try.underlying171 (by kernel_rfl) (.cons (.t rfl) (.cons (.t rfl) .nil)) (Fills.cons SFault.l_code rfl (Fills.cons SFault.l_at_ rfl Fills.nil))) ?_
        refine al1 13 rfl ((buildSlice (E := eFault) Try.underlying120 ty171 z171 (.cons (.t rfl) .nil) rfl rfl (fun v2 => ?_)))
        refine hdn (al1 14 rfl ((app (E := eFault) Try.underlying120 ty171 zb171 zs171 (.t rfl) (.t rfl) (fun v3 => ?_) (hby := ⟨by (show _ ≤ 9223372036854775807); have := faultsUp_len (fun j0 : Nat => g (xs.getD j0 eRoute.zero) j0) d i.toNat; simp only [List.length_append, List.length_cons, List.length_nil]; omega, by have := faultsUp_len (fun j0 : Nat => g (xs.getD j0 eRoute.zero) j0) d i.toNat; simp only [List.length_append, List.length_cons, List.length_nil]; omega⟩))))
        refine hdn (tk 15 rfl (Ev.nilCheck (.t rfl)) ?_)
        refine tk 16 rfl (fA 0 (.t rfl)) ?_
        refine al1 17 rfl ((stv ty120 SConfFaults.l_l (.t rfl) (.t rfl) ?_))
        refine hdn (ovr (bN (pN (region (co (Ev.add_i (.t rfl) (.c (v := I 1) rfl) (fun _ => by omega)) ?_)))))
        refine mv rfl (nP (nx (X := Int × OV) (i + 1, _) ?_ ?_ (hL := (by rw [hst]; (try rw [← List.append_assoc]); repeat first | exact sR | exact sN | apply sC | apply sS | apply sA))))
        · try dsimp only
          omega
        · try dsimp only
          omega
      · refine (opv (Ev.ldv ty3 (.t rfl) SConfFaults.l_at_) ?_)
        refine hdn (tk 11 rfl (Ev.add_i (.t rfl) (.t rfl) (fun _ => by simp; omega)) ?_)
        refine tk 12 rfl (Ev.buildS (fs := _) (places := [(0, 1), (1, 1)]) z171 rfl Try.underlying171 (by kernel_rfl) (.cons (.t rfl) (.cons (.t rfl) .nil)) (Fills.cons SFault.l_code rfl (Fills.cons SFault.l_at_ rfl Fills.nil))) ?_
        refine all [4, 13] (by kernel_rfl) (by decide) (.cons rfl ?_ (.cons rfl ?_ .nil))
        · refine (opv (Ev.ldv ty120 (.t rfl) SConfFaults.l_l) ?_)
          refine hdn (al1 13 rfl ((buildSlice (E := eFault) Try.underlying120 ty171 z171 (.cons (.t rfl) .nil) rfl rfl (fun v4 => ?_))))
          refine hdn (al1 14 rfl ((app (E := eFault) Try.underlying120 ty171 zb171 zs171 (.t rfl) (.t rfl) (fun v5 => ?_) (hby := ⟨by (show _ ≤ 9223372036854775807); have := faultsUp_len (fun j0 : Nat => g (xs.getD j0 eRoute.zero) j0) d i.toNat; simp only [List.length_append, List.length_cons, List.length_nil]; omega, by have := faultsUp_len (fun j0 : Nat => g (xs.getD j0 eRoute.zero) j0) d i.toNat; simp only [List.length_append, List.length_cons, List.length_nil]; omega⟩))))
          refine hdn (tk 15 rfl (Ev.nilCheck (.t rfl)) ?_)
          refine tk 16 rfl (fA 0 (.t rfl)) ?_
          refine al1 17 rfl ((stv ty120 SConfFaults.l_l (.t rfl) (.t rfl) ?_))
          refine hdn (ovr (bN (pN (region (co (Ev.add_i (.t rfl) (.c (v := I 1) rfl) (fun _ => by omega)) ?_)))))
          refine mv rfl (nP (nx (X := Int × OV) (i + 1, _) ?_ ?_ (hL := (by rw [hst]; (try rw [← List.append_assoc]); repeat first | exact sR | exact sN | apply sC | apply sS | apply sA))))
          · try dsimp only
            omega
          · try dsimp only
            omega
        · refine (buildSlice (E := eFault) Try.underlying120 ty171 z171 (.cons (.t rfl) .nil) rfl rfl (fun v6 => ?_))
          refine hdn (al1 4 rfl ((opv (Ev.ldv ty120 (.t rfl) SConfFaults.l_l) ?_)))
          refine hdn (al1 14 rfl ((app (E := eFault) Try.underlying120 ty171 zb171 zs171 (.t rfl) (.t rfl) (fun v7 => ?_) (hby := ⟨by (show _ ≤ 9223372036854775807); have := faultsUp_len (fun j0 : Nat => g (xs.getD j0 eRoute.zero) j0) d i.toNat; simp only [List.length_append, List.length_cons, List.length_nil]; omega, by have := faultsUp_len (fun j0 : Nat => g (xs.getD j0 eRoute.zero) j0) d i.toNat; simp only [List.length_append, List.length_cons, List.length_nil]; omega⟩))))
          refine hdn (tk 15 rfl (Ev.nilCheck (.t rfl)) ?_)
          refine tk 16 rfl (fA 0 (.t rfl)) ?_
          refine al1 17 rfl ((stv ty120 SConfFaults.l_l (.t rfl) (.t rfl) ?_))
          refine hdn (ovr (bN (pN (region (co (Ev.add_i (.t rfl) (.c (v := I 1) rfl) (fun _ => by omega)) ?_)))))
          refine mv rfl (nP (nx (X := Int × OV) (i + 1, _) ?_ ?_ (hL := (by rw [hst]; (try rw [← List.append_assoc]); repeat first | exact sR | exact sN | apply sC | apply sS | apply sA))))
          · try dsimp only
            omega
          · try dsimp only
            omega
    · try simp only [Gx.nb] at h1
      have ei : ((i.toNat : Nat) : Int) = i := by omega
      have hst := faultsUp_ok (e := (fun j0 : Nat => g (xs.getD j0 eRoute.zero) j0)) (d := d) hi.1 (by (try dsimp only); rw [ei]; exact h1)
      refine skip (bN (pN (region (co (Ev.add_i (.t rfl) (.c (v := I 1) rfl) (fun _ => by omega)) ?_))))
      refine mv rfl (nP (nx (X := Int × OV) (i + 1, _) ?_ ?_ (hL := (by rw [hst]; (try rw [← List.append_assoc]); repeat first | exact sR | exact sN | apply sC | apply sS | apply sA))))
      · try dsimp only
        omega
      · try dsimp only
        omega
  · try simp only [Gx.nb] at h0
    refine exit (pX (pX (bX (pN (cut (X := OV) (fun x : OV => True) (fun x : OV => [dz, (0, true, .pointer (some ⟨b, 0, none⟩)), (1, true, u)]) (fun x : OV => [Var b eConfFaults ⟨x, d⟩ 159, OwnS x.v eFault (fs ++ listG (fun j0 : Nat => g (xs.getD j0 eRoute.zero) j0) d xs.length most) 171]) ?_ (fun x hx => ?_))))))
    · refine sg ?_
      have him : i.toNat = m := by omega
      rw [him]
      refine mv rfl (co (Ev.len Try.underlying23 (.t rfl) (fun w I => hxs w I.keeps)) ?_)
      refine mv rfl (co (Ev.gtr_i (.t rfl) (.t rfl)) ?_)
      refine nP ?_
      first | refine condD rfl (fun h2 => ?_) (fun h2 => ?_) | refine cond rfl (fun h2 => ?_) (fun h2 => ?_)
      · try simp only [Gx.nb] at h2
        refine draw [] (by kernel_rfl) ?_
        refine tk 0 rfl (Ev.move (.t rfl)) ?_
        refine tk 1 rfl (Ev.move (.t rfl)) ?_
        refine tk 2 rfl (Ev.nilCheck (.t rfl)) ?_
        refine tk 3 rfl (fA 0 (.t rfl)) ?_
        refine tk 5 rfl (Ev.move (.t rfl)) ?_
        refine tk 6 rfl (Ev.nilCheck (.t rfl)) ?_
        refine tk 7 rfl (fA 1 (.t rfl)) ?_
        refine tk 9 rfl (Ev.move (.t rfl)) ?_
        refine all [4, 8] (by kernel_rfl) (by decide) (.cons rfl ?_ (.cons rfl ?_ .nil))
        · refine (opv (Ev.ldv ty120 (.t rfl) SConfFaults.l_l) ?_)
          refine hdn (al1 8 rfl ((opv (Ev.ldv ty3 (.t rfl) SConfFaults.l_at_) ?_)))
          refine hdn (tk 10 rfl (Ev.add_i (.t rfl) (.t rfl) (fun _ => by simp; omega)) ?_)
          refine tk 11 rfl (Ev.buildS (fs := _) (places := [(0, 1), (1, 1)]) z171 rfl Try.underlying171 (by kernel_rfl) (.cons (.c (v := I 4) rfl) (.cons (.t rfl) .nil)) (Fills.cons SFault.l_code rfl (Fills.cons SFault.l_at_ rfl Fills.nil))) ?_
          refine al1 12 rfl ((buildSlice (E := eFault) Try.underlying120 ty171 z171 (.cons (.t rfl) .nil) rfl rfl (fun v8 => ?_)))
          refine hdn (al1 13 rfl ((app (E := eFault) Try.underlying120 ty171 zb171 zs171 (.t rfl) (.t rfl) (fun v9 => ?_) (hby := ⟨by (show _ ≤ 9223372036854775807); have := faultsUp_len (fun j0 : Nat => g (xs.getD j0 eRoute.zero) j0) d m; simp only [List.length_append, List.length_cons, List.length_nil]; omega, by have := faultsUp_len (fun j0 : Nat => g (xs.getD j0 eRoute.zero) j0) d m; simp only [List.length_append, List.length_cons, List.length_nil]; omega⟩))))
          refine hdn (tk 14 rfl (Ev.nilCheck (.t rfl)) ?_)
          refine tk 15 rfl (fA 0 (.t rfl)) ?_
          refine al1 16 rfl ((stv ty120 SConfFaults.l_l (.t rfl) (.t rfl) ?_))
          refine hdn (ovr (pN (mt (X := OV) (_) trivial (hL := (by unfold listG; rw [← hm2]; (first | rw [if_pos (by omega), ← List.append_assoc] | rw [if_neg (by omega), List.append_nil]); repeat first | exact sR | exact sN | apply sC | apply sS | apply sA)))))
        · refine (opv (Ev.ldv ty3 (.t rfl) SConfFaults.l_at_) ?_)
          refine hdn (tk 10 rfl (Ev.add_i (.t rfl) (.t rfl) (fun _ => by simp; omega)) ?_)
          refine tk 11 rfl (Ev.buildS (fs := _) (places := [(0, 1), (1, 1)]) z171 rfl Try.underlying171 (by kernel_rfl) (.cons (.c (v := I 4) rfl) (.cons (.t rfl) .nil)) (Fills.cons SFault.l_code rfl (Fills.cons SFault.l_at_ rfl Fills.nil))) ?_
          refine all [4, 12] (by kernel_rfl) (by decide) (.cons rfl ?_ (.cons rfl ?_ .nil))
          · refine (opv (Ev.ldv ty120 (.t rfl) SConfFaults.l_l) ?_)
            refine hdn (al1 12 rfl ((buildSlice (E := eFault) Try.underlying120 ty171 z171 (.cons (.t rfl) .nil) rfl rfl (fun v10 => ?_))))
            refine hdn (al1 13 rfl ((app (E := eFault) Try.underlying120 ty171 zb171 zs171 (.t rfl) (.t rfl) (fun v11 => ?_) (hby := ⟨by (show _ ≤ 9223372036854775807); have := faultsUp_len (fun j0 : Nat => g (xs.getD j0 eRoute.zero) j0) d m; simp only [List.length_append, List.length_cons, List.length_nil]; omega, by have := faultsUp_len (fun j0 : Nat => g (xs.getD j0 eRoute.zero) j0) d m; simp only [List.length_append, List.length_cons, List.length_nil]; omega⟩))))
            refine hdn (tk 14 rfl (Ev.nilCheck (.t rfl)) ?_)
            refine tk 15 rfl (fA 0 (.t rfl)) ?_
            refine al1 16 rfl ((stv ty120 SConfFaults.l_l (.t rfl) (.t rfl) ?_))
            refine hdn (ovr (pN (mt (X := OV) (_) trivial (hL := (by unfold listG; rw [← hm2]; (first | rw [if_pos (by omega), ← List.append_assoc] | rw [if_neg (by omega), List.append_nil]); repeat first | exact sR | exact sN | apply sC | apply sS | apply sA)))))
          · refine (buildSlice (E := eFault) Try.underlying120 ty171 z171 (.cons (.t rfl) .nil) rfl rfl (fun v12 => ?_))
            refine hdn (al1 4 rfl ((opv (Ev.ldv ty120 (.t rfl) SConfFaults.l_l) ?_)))
            refine hdn (al1 13 rfl ((app (E := eFault) Try.underlying120 ty171 zb171 zs171 (.t rfl) (.t rfl) (fun v13 => ?_) (hby := ⟨by (show _ ≤ 9223372036854775807); have := faultsUp_len (fun j0 : Nat => g (xs.getD j0 eRoute.zero) j0) d m; simp only [List.length_append, List.length_cons, List.length_nil]; omega, by have := faultsUp_len (fun j0 : Nat => g (xs.getD j0 eRoute.zero) j0) d m; simp only [List.length_append, List.length_cons, List.length_nil]; omega⟩))))
            refine hdn (tk 14 rfl (Ev.nilCheck (.t rfl)) ?_)
            refine tk 15 rfl (fA 0 (.t rfl)) ?_
            refine al1 16 rfl ((stv ty120 SConfFaults.l_l (.t rfl) (.t rfl) ?_))
            refine hdn (ovr (pN (mt (X := OV) (_) trivial (hL := (by unfold listG; rw [← hm2]; (first | rw [if_pos (by omega), ← List.append_assoc] | rw [if_neg (by omega), List.append_nil]); repeat first | exact sR | exact sN | apply sC | apply sS | apply sA)))))
      · try simp only [Gx.nb] at h2
        refine skip (pN (mt (X := OV) (_) trivial (hL := (by unfold listG; rw [← hm2]; (first | rw [if_pos (by omega), ← List.append_assoc] | rw [if_neg (by omega), List.append_nil]); repeat first | exact sR | exact sN | apply sC | apply sS | apply sA))))
    obtain ⟨q2, rfl⟩ : ∃ y, y = x := ⟨x, rfl⟩
    show Sat _ _ [dz, (0, true, .pointer (some ⟨b, 0, none⟩)), (1, true, u)] [Var b eConfFaults ⟨q2, d⟩ 159, OwnS q2.v eFault (fs ++ listG (fun j0 : Nat => g (xs.getD j0 eRoute.zero) j0) d xs.length most) 171]
    refine region (mv rfl (co (Ev.nilCheck (.t rfl)) ?_))
    refine co (fA 1 (.t rfl)) ?_
    refine co (Ev.ldv ty3 (.t rfl) SConfFaults.l_at_) ?_
    refine mv rfl (co (Ev.len Try.underlying23 (.t rfl) (fun w I => hxs w I.keeps)) ?_)
    refine co (Ev.add_i (.t rfl) (.t rfl) (fun _ => by simp; omega)) ?_
    refine co (Ev.nilCheck (.t rfl)) ?_
    refine co (fA 1 (.t rfl)) ?_
    refine cons (stv ty3 SConfFaults.l_at_ (.t rfl) (.t rfl) ?_)
    refine nil (done' rfl .nil (fun w I => ?_))
    exact retR (r' := fun o2 => FR b o2 (fs ++ listG (fun j0 : Nat => g (xs.getD j0 eRoute.zero) j0) d xs.length most) (d + xs.length)) _ trivial rfl (List.mem_singleton_self _) w (WInv.sepIn (I.sub (by repeat first | exact sR | exact sN | apply sC | apply sS | apply sA)))
theorem list_57 (f : Nat) (fst cap : List Value) (g : SRule → Int → Int) (D : SRule → Int → Prop) (b : Nat) (o : OV) (fs : List SFault) (d : Int) (u : Value) (xs : List SRule) (most : Nat) (w : World) (hen : Gx.Enters Try.prog f) (h : At (FR b o fs d) w) (hxs : ∀ w1, Keeps (FR b o fs d).foot w w1 → IsSl eRule w1 u xs) (hk : FnB2 Try.prog f fst cap (FR b o fs d).foot w eRule iE iE D g) (hD : ∀ i : Nat, i < xs.length → D (xs.getD i eRule.zero) i) (hd : 0 ≤ d ∧ d + xs.length ≤ 4611686018427387904) (hf : fs.length + most ≤ 100000) : Calls Try.prog 69 #[.pointer (some ⟨b, 0, none⟩), u, I most, (bnd f fst cap).v] w (RetR w (FR b o fs d) (fun _ : OV => True) (fun _ => .tuple #[]) (fun o2 => FR b o2 (fs ++ listG (fun j0 : Nat => g (xs.getD j0 eRule.zero) j0) d xs.length most) (d + xs.length))) := by
  obtain ⟨m, hm⟩ : ∃ m : Nat, (min (xs.length : Int) (most : Int)) = (m : Int) := ⟨min xs.length most, by omega⟩
  have hm2 : m = min xs.length most := by omega
  have hle := (hxs w (Keeps.refl _ _)).le
  have htl : (xs.take m).length = m := by simp; omega
  refine enter (FR b o fs d).foot 76 [FR b o fs d] Try.func69 rfl rfl (Nat.le_of_ble_eq_true rfl) (start_at h) ?_
  refine sepOut Rem.head ?_
  refine seq (sg (mv rfl (mv rfl (co (Ev.len Try.underlying24 (.t rfl) (fun w I => hxs w I.keeps)) ?_))))
  refine mv rfl (co (Ev.to (v' := I ((m : Nat) : Int)) (Ev.min_i (.t rfl) (.t rfl)) (by rw [hm])) ?_)
  refine co (Ev.sliceH Try.underlying24 ty57 (.t rfl) (.t rfl) (fun w I => hxs w I.keeps) (fun _ => by omega)) ?_
  refine co (Ev.len Try.underlying24 (.t rfl) (fun w I => by have := (hxs w I.keeps).sub (l := 0) (k := m) (by omega) (by omega); simpa using this)) ?_
  refine co (Ev.move (.c (v := I 0) rfl)) ?_
  refine nP (block (lp (X := Int × OV) (fun x : Int × OV => (0 ≤ x.1 ∧ x.1 ≤ m)) (fun x : Int × OV => [dz, (0, true, .pointer (some ⟨b, 0, none⟩)), (1, true, u), (2, true, I most), (3, true, (bnd f fst cap).v), (16, true, subS eRule.size u 0 m), (17, true, I (xs.take m).length), (18, true, I x.1)]) (fun x : Int × OV => [Var b eConfFaults ⟨x.2, d⟩ 159, OwnS x.2.v eFault (fs ++ faultsUp (fun j0 : Nat => g (xs.getD j0 eRule.zero) j0) d x.1.toNat) 171]) (fun x : Int × OV => ((m : Int) - x.1).toNat) (0, o) ?_ (fun x hx => ?_) (hL := (by simp only [show (0 : Int).toNat = 0 from rfl, faultsUp, List.append_nil]; repeat first | exact sR | exact sN | apply sC | apply sS | apply sA))))
  · omega
  obtain ⟨i, q⟩ := x
  have hi : 0 ≤ i ∧ i ≤ m := hx
  clear hx
  show Sat _ _ [dz, (0, true, .pointer (some ⟨b, 0, none⟩)), (1, true, u), (2, true, I most), (3, true, (bnd f fst cap).v), (16, true, subS eRule.size u 0 m), (17, true, I (xs.take m).length), (18, true, I i)] [Var b eConfFaults ⟨q, d⟩ 159, OwnS q.v eFault (fs ++ faultsUp (fun j0 : Nat => g (xs.getD j0 eRule.zero) j0) d i.toNat) 171]
  refine sg (co (Ev.lss_i (.t rfl) (.t rfl)) ?_)
  refine nP (seq ?_)
  first | refine condD rfl (fun h0 => ?_) (fun h0 => ?_) | refine cond rfl (fun h0 => ?_) (fun h0 => ?_)
  · try simp only [Gx.nb] at h0
    refine skip (pN (seq (block (sg (mv rfl (co (Ev.indexAddr Try.underlying24 ty57 (.t rfl) (.t rfl) (fun w I => by have := (hxs w I.keeps).sub (l := 0) (k := m) (by omega) (by omega); simpa using this) (fun _ => by omega)) ?_))))))
    refine co (Ev.to (v' := eRule.val (xs.getD i.toNat eRule.zero)) (Ev.loadS0 ty57 (.t rfl) (fun w I => by have := (hxs w I.keeps).sub (l := 0) (k := m) (by omega) (by omega); simpa using this) (fun _ => by omega)) (congrArg eRule.val (getD_take'' xs m i.toNat _ (by omega)))) ?_
    refine cons (alloc z57 (fun b1 => ?_))
    refine asn rfl (cons (stv ty57 (Lens.id _) (.t rfl) (.t rfl) ?_))
    refine nP (sg (mv rfl (co (Ev.ldv ty57 (.t rfl) (Lens.id _)) ?_)))
    refine mv rfl (cons (callbv (.t rfl) hen (.cons (.t rfl) (.cons (.t rfl) .nil)) (fun w I => hk (xs.getD i.toNat eRule.zero) i w (by have := hD i.toNat (by omega); rwa [show ((i.toNat : Nat) : Int) = i by omega] at this) I.keeps) ?_))
    refine asn rfl (nP (sg (mv rfl (co (Ev.neq_i (.t rfl) (.c (v := I 0) rfl)) ?_))))
    refine nP ?_
    first | refine condD rfl (fun h1 => ?_) (fun h1 => ?_) | refine cond rfl (fun h1 => ?_) (fun h1 => ?_)
    · try simp only [Gx.nb] at h1
      have ei : ((i.toNat : Nat) : Int) = i := by omega
      have hst := faultsUp_bad (e := (fun j0 : Nat => g (xs.getD j0 eRule.zero) j0)) (d := d) hi.1 (by (try dsimp only); rw [ei]; exact h1)
      (try dsimp only at hst)
      rw [ei] at hst
      refine draw [] (by kernel_rfl) ?_
      refine tk 0 rfl (Ev.move (.t rfl)) ?_
      refine tk 1 rfl (Ev.move (.t rfl)) ?_
      refine tk 2 rfl (Ev.nilCheck (.t rfl)) ?_
      refine tk 3 rfl (fA 0 (.t rfl)) ?_
      refine tk 5 rfl (Ev.move (.t rfl)) ?_
      refine tk 6 rfl (Ev.move (.t rfl)) ?_
      refine tk 7 rfl (Ev.nilCheck (.t rfl)) ?_
      refine tk 8 rfl (fA 1 (.t rfl)) ?_
      refine tk 10 rfl (Ev.move (.t rfl)) ?_
      refine all [4, 9] (by kernel_rfl) (by decide) (.cons rfl ?_ (.cons rfl ?_ .nil))
      · refine (opv (Ev.ldv ty120 (.t rfl) SConfFaults.l_l) ?_)
        refine hdn (al1 9 rfl ((opv (Ev.ldv ty3 (.t rfl) SConfFaults.l_at_) ?_)))
        refine hdn (tk 11 rfl (Ev.add_i (.t rfl) (.t rfl) (fun _ => by simp; omega)) ?_)
        refine tk 12 rfl (Ev.buildS (fs := _) (places := [(0, 1), (1, 1)]) z171 rfl Try.underlying171 (by kernel_rfl) (.cons (.t rfl) (.cons (.t rfl) .nil)) (Fills.cons SFault.l_code rfl (Fills.cons SFault.l_at_ rfl Fills.nil))) ?_
        refine al1 13 rfl ((buildSlice (E := eFault) Try.underlying120 ty171 z171 (.cons (.t rfl) .nil) rfl rfl (fun v2 => ?_)))
        refine hdn (al1 14 rfl ((app (E := eFault) Try.underlying120 ty171 zb171 zs171 (.t rfl) (.t rfl) (fun v3 => ?_) (hby := ⟨by (show _ ≤ 9223372036854775807); have := faultsUp_len (fun j0 : Nat => g (xs.getD j0 eRule.zero) j0) d i.toNat; simp only [List.length_append, List.length_cons, List.length_nil]; omega, by have := faultsUp_len (fun j0 : Nat => g (xs.getD j0 eRule.zero) j0) d i.toNat; simp only [List.length_append, List.length_cons, List.length_nil]; omega⟩))))
        refine hdn (tk 15 rfl (Ev.nilCheck (.t rfl)) ?_)
        refine tk 16 rfl (fA 0 (.t rfl)) ?_
        refine al1 17 rfl ((stv ty120 SConfFaults.l_l (.t rfl) (.t rfl) ?_))
        refine hdn (ovr (bN (pN (region (co (Ev.add_i (.t rfl) (.c (v := I 1) rfl) (fun _ => by omega)) ?_)))))
        refine mv rfl (nP (nx (X := Int × OV) (i + 1, _) ?_ ?_ (hL := (by rw [hst]; (try rw [← List.append_assoc]); repeat first | exact sR | exact sN | apply sC | apply sS | apply sA))))
        · try dsimp only
          omega
        · try dsimp only
          omega
      · refine (opv (Ev.ldv ty3 (.t rfl) SConfFaults.l_at_) ?_)
        refine hdn (tk 11 rfl (Ev.add_i (.t rfl) (.t rfl) (fun _ => by simp; omega)) ?_)
        refine tk 12 rfl (Ev.buildS (fs := _) (places := [(0, 1), (1, 1)]) z171 rfl Try.underlying171 (by kernel_rfl) (.cons (.t rfl) (.cons (.t rfl) .nil)) (Fills.cons SFault.l_code rfl (Fills.cons SFault.l_at_ rfl Fills.nil))) ?_
        refine all [4, 13] (by kernel_rfl) (by decide) (.cons rfl ?_ (.cons rfl ?_ .nil))
        · refine (opv (Ev.ldv ty120 (.t rfl) SConfFaults.l_l) ?_)
          refine hdn (al1 13 rfl ((buildSlice (E := eFault) Try.underlying120 ty171 z171 (.cons (.t rfl) .nil) rfl rfl (fun v4 => ?_))))
          refine hdn (al1 14 rfl ((app (E := eFault) Try.underlying120 ty171 zb171 zs171 (.t rfl) (.t rfl) (fun v5 => ?_) (hby := ⟨by (show _ ≤ 9223372036854775807); have := faultsUp_len (fun j0 : Nat => g (xs.getD j0 eRule.zero) j0) d i.toNat; simp only [List.length_append, List.length_cons, List.length_nil]; omega, by have := faultsUp_len (fun j0 : Nat => g (xs.getD j0 eRule.zero) j0) d i.toNat; simp only [List.length_append, List.length_cons, List.length_nil]; omega⟩))))
          refine hdn (tk 15 rfl (Ev.nilCheck (.t rfl)) ?_)
          refine tk 16 rfl (fA 0 (.t rfl)) ?_
          refine al1 17 rfl ((stv ty120 SConfFaults.l_l (.t rfl) (.t rfl) ?_))
          refine hdn (ovr (bN (pN (region (co (Ev.add_i (.t rfl) (.c (v := I 1) rfl) (fun _ => by omega)) ?_)))))
          refine mv rfl (nP (nx (X := Int × OV) (i + 1, _) ?_ ?_ (hL := (by rw [hst]; (try rw [← List.append_assoc]); repeat first | exact sR | exact sN | apply sC | apply sS | apply sA))))
          · try dsimp only
            omega
          · try dsimp only
            omega
        · refine (buildSlice (E := eFault) Try.underlying120 ty171 z171 (.cons (.t rfl) .nil) rfl rfl (fun v6 => ?_))
          refine hdn (al1 4 rfl ((opv (Ev.ldv ty120 (.t rfl) SConfFaults.l_l) ?_)))
          refine hdn (al1 14 rfl ((app (E := eFault) Try.underlying120 ty171 zb171 zs171 (.t rfl) (.t rfl) (fun v7 => ?_) (hby := ⟨by (show _ ≤ 9223372036854775807); have := faultsUp_len (fun j0 : Nat => g (xs.getD j0 eRule.zero) j0) d i.toNat; simp only [List.length_append, List.length_cons, List.length_nil]; omega, by have := faultsUp_len (fun j0 : Nat => g (xs.getD j0 eRule.zero) j0) d i.toNat; simp only [List.length_append, List.length_cons, List.length_nil]; omega⟩))))
          refine hdn (tk 15 rfl (Ev.nilCheck (.t rfl)) ?_)
          refine tk 16 rfl (fA 0 (.t rfl)) ?_
          refine al1 17 rfl ((stv ty120 SConfFaults.l_l (.t rfl) (.t rfl) ?_))
          refine hdn (ovr (bN (pN (region (co (Ev.add_i (.t rfl) (.c (v := I 1) rfl) (fun _ => by omega)) ?_)))))
          refine mv rfl (nP (nx (X := Int × OV) (i + 1, _) ?_ ?_ (hL := (by rw [hst]; (try rw [← List.append_assoc]); repeat first | exact sR | exact sN | apply sC | apply sS | apply sA))))
          · try dsimp only
            omega
          · try dsimp only
            omega
    · try simp only [Gx.nb] at h1
      have ei : ((i.toNat : Nat) : Int) = i := by omega
      have hst := faultsUp_ok (e := (fun j0 : Nat => g (xs.getD j0 eRule.zero) j0)) (d := d) hi.1 (by (try dsimp only); rw [ei]; exact h1)
      refine skip (bN (pN (region (co (Ev.add_i (.t rfl) (.c (v := I 1) rfl) (fun _ => by omega)) ?_))))
      refine mv rfl (nP (nx (X := Int × OV) (i + 1, _) ?_ ?_ (hL := (by rw [hst]; (try rw [← List.append_assoc]); repeat first | exact sR | exact sN | apply sC | apply sS | apply sA))))
      · try dsimp only
        omega
      · try dsimp only
        omega
  · try simp only [Gx.nb] at h0
    refine exit (pX (pX (bX (pN (cut (X := OV) (fun x : OV => True) (fun x : OV => [dz, (0, true, .pointer (some ⟨b, 0, none⟩)), (1, true, u)]) (fun x : OV => [Var b eConfFaults ⟨x, d⟩ 159, OwnS x.v eFault (fs ++ listG (fun j0 : Nat => g (xs.getD j0 eRule.zero) j0) d xs.length most) 171]) ?_ (fun x hx => ?_))))))
    · refine sg ?_
      have him : i.toNat = m := by omega
      rw [him]
      refine mv rfl (co (Ev.len Try.underlying24 (.t rfl) (fun w I => hxs w I.keeps)) ?_)
      refine mv rfl (co (Ev.gtr_i (.t rfl) (.t rfl)) ?_)
      refine nP ?_
      first | refine condD rfl (fun h2 => ?_) (fun h2 => ?_) | refine cond rfl (fun h2 => ?_) (fun h2 => ?_)
      · try simp only [Gx.nb] at h2
        refine draw [] (by kernel_rfl) ?_
        refine tk 0 rfl (Ev.move (.t rfl)) ?_
        refine tk 1 rfl (Ev.move (.t rfl)) ?_
        refine tk 2 rfl (Ev.nilCheck (.t rfl)) ?_
        refine tk 3 rfl (fA 0 (.t rfl)) ?_
        refine tk 5 rfl (Ev.move (.t rfl)) ?_
        refine tk 6 rfl (Ev.nilCheck (.t rfl)) ?_
        refine tk 7 rfl (fA 1 (.t rfl)) ?_
        refine tk 9 rfl (Ev.move (.t rfl)) ?_
        refine all [4, 8] (by kernel_rfl) (by decide) (.cons rfl ?_ (.cons rfl ?_ .nil))
        · refine (opv (Ev.ldv ty120 (.t rfl) SConfFaults.l_l) ?_)
          refine hdn (al1 8 rfl ((opv (Ev.ldv ty3 (.t rfl) SConfFaults.l_at_) ?_)))
          refine hdn (tk 10 rfl (Ev.add_i (.t rfl) (.t rfl) (fun _ => by simp; omega)) ?_)
          refine tk 11 rfl (Ev.buildS (fs := _) (places := [(0, 1), (1, 1)]) z171 rfl Try.underlying171 (by kernel_rfl) (.cons (.c (v := I 4) rfl) (.cons (.t rfl) .nil)) (Fills.cons SFault.l_code rfl (Fills.cons SFault.l_at_ rfl Fills.nil))) ?_
          refine al1 12 rfl ((buildSlice (E := eFault) Try.underlying120 ty171 z171 (.cons (.t rfl) .nil) rfl rfl (fun v8 => ?_)))
          refine hdn (al1 13 rfl ((app (E := eFault) Try.underlying120 ty171 zb171 zs171 (.t rfl) (.t rfl) (fun v9 => ?_) (hby := ⟨by (show _ ≤ 9223372036854775807); have := faultsUp_len (fun j0 : Nat => g (xs.getD j0 eRule.zero) j0) d m; simp only [List.length_append, List.length_cons, List.length_nil]; omega, by have := faultsUp_len (fun j0 : Nat => g (xs.getD j0 eRule.zero) j0) d m; simp only [List.length_append, List.length_cons, List.length_nil]; omega⟩))))
          refine hdn (tk 14 rfl (Ev.nilCheck (.t rfl)) ?_)
          refine tk 15 rfl (fA 0 (.t rfl)) ?_
          refine al1 16 rfl ((stv ty120 SConfFaults.l_l (.t rfl) (.t rfl) ?_))
          refine hdn (ovr (pN (mt (X := OV) (_) trivial (hL := (by unfold listG; rw [← hm2]; (first | rw [if_pos (by omega), ← List.append_assoc] | rw [if_neg (by omega), List.append_nil]); repeat first | exact sR | exact sN | apply sC | apply sS | apply sA)))))
        · refine (opv (Ev.ldv ty3 (.t rfl) SConfFaults.l_at_) ?_)
          refine hdn (tk 10 rfl (Ev.add_i (.t rfl) (.t rfl) (fun _ => by simp; omega)) ?_)
          refine tk 11 rfl (Ev.buildS (fs := _) (places := [(0, 1), (1, 1)]) z171 rfl Try.underlying171 (by kernel_rfl) (.cons (.c (v := I 4) rfl) (.cons (.t rfl) .nil)) (Fills.cons SFault.l_code rfl (Fills.cons SFault.l_at_ rfl Fills.nil))) ?_
          refine all [4, 12] (by kernel_rfl) (by decide) (.cons rfl ?_ (.cons rfl ?_ .nil))
          · refine (opv (Ev.ldv ty120 (.t rfl) SConfFaults.l_l) ?_)
            refine hdn (al1 12 rfl ((buildSlice (E := eFault) Try.underlying120 ty171 z171 (.cons (.t rfl) .nil) rfl rfl (fun v10 => ?_))))
            refine hdn (al1 13 rfl ((app (E := eFault) Try.underlying120 ty171 zb171 zs171 (.t rfl) (.t rfl) (fun v11 => ?_) (hby := ⟨by (show _ ≤ 9223372036854775807); have := faultsUp_len (fun j0 : Nat => g (xs.getD j0 eRule.zero) j0) d m; simp only [List.length_append, List.length_cons, List.length_nil]; omega, by have := faultsUp_len (fun j0 : Nat => g (xs.getD j0 eRule.zero) j0) d m; simp only [List.length_append, List.length_cons, List.length_nil]; omega⟩))))
            refine hdn (tk 14 rfl (Ev.nilCheck (.t rfl)) ?_)
            refine tk 15 rfl (fA 0 (.t rfl)) ?_
            refine al1 16 rfl ((stv ty120 SConfFaults.l_l (.t rfl) (.t rfl) ?_))
            refine hdn (ovr (pN (mt (X := OV) (_) trivial (hL := (by unfold listG; rw [← hm2]; (first | rw [if_pos (by omega), ← List.append_assoc] | rw [if_neg (by omega), List.append_nil]); repeat first | exact sR | exact sN | apply sC | apply sS | apply sA)))))
          · refine (buildSlice (E := eFault) Try.underlying120 ty171 z171 (.cons (.t rfl) .nil) rfl rfl (fun v12 => ?_))
            refine hdn (al1 4 rfl ((opv (Ev.ldv ty120 (.t rfl) SConfFaults.l_l) ?_)))
            refine hdn (al1 13 rfl ((app (E := eFault) Try.underlying120 ty171 zb171 zs171 (.t rfl) (.t rfl) (fun v13 => ?_) (hby := ⟨by (show _ ≤ 9223372036854775807); have := faultsUp_len (fun j0 : Nat => g (xs.getD j0 eRule.zero) j0) d m; simp only [List.length_append, List.length_cons, List.length_nil]; omega, by have := faultsUp_len (fun j0 : Nat => g (xs.getD j0 eRule.zero) j0) d m; simp only [List.length_append, List.length_cons, List.length_nil]; omega⟩))))
            refine hdn (tk 14 rfl (Ev.nilCheck (.t rfl)) ?_)
            refine tk 15 rfl (fA 0 (.t rfl)) ?_
            refine al1 16 rfl ((stv ty120 SConfFaults.l_l (.t rfl) (.t rfl) ?_))
            refine hdn (ovr (pN (mt (X := OV) (_) trivial (hL := (by unfold listG; rw [← hm2]; (first | rw [if_pos (by omega), ← List.append_assoc] | rw [if_neg (by omega), List.append_nil]); repeat first | exact sR | exact sN | apply sC | apply sS | apply sA)))))
      · try simp only [Gx.nb] at h2
        refine skip (pN (mt (X := OV) (_) trivial (hL := (by unfold listG; rw [← hm2]; (first | rw [if_pos (by omega), ← List.append_assoc] | rw [if_neg (by omega), List.append_nil]); repeat first | exact sR | exact sN | apply sC | apply sS | apply sA))))
    obtain ⟨q2, rfl⟩ : ∃ y, y = x := ⟨x, rfl⟩
    show Sat _ _ [dz, (0, true, .pointer (some ⟨b, 0, none⟩)), (1, true, u)] [Var b eConfFaults ⟨q2, d⟩ 159, OwnS q2.v eFault (fs ++ listG (fun j0 : Nat => g (xs.getD j0 eRule.zero) j0) d xs.length most) 171]
    refine region (mv rfl (co (Ev.nilCheck (.t rfl)) ?_))
    refine co (fA 1 (.t rfl)) ?_
    refine co (Ev.ldv ty3 (.t rfl) SConfFaults.l_at_) ?_
    refine mv rfl (co (Ev.len Try.underlying24 (.t rfl) (fun w I => hxs w I.keeps)) ?_)
    refine co (Ev.add_i (.t rfl) (.t rfl) (fun _ => by simp; omega)) ?_
    refine co (Ev.nilCheck (.t rfl)) ?_
    refine co (fA 1 (.t rfl)) ?_
    refine cons (stv ty3 SConfFaults.l_at_ (.t rfl) (.t rfl) ?_)
    refine nil (done' rfl .nil (fun w I => ?_))
    exact retR (r' := fun o2 => FR b o2 (fs ++ listG (fun j0 : Nat => g (xs.getD j0 eRule.zero) j0) d xs.length most) (d + xs.length)) _ trivial rfl (List.mem_singleton_self _) w (WInv.sepIn (I.sub (by repeat first | exact sR | exact sN | apply sC | apply sS | apply sA)))
theorem list_95 (f : Nat) (fst cap : List Value) (g : SMeterConf → Int → Int) (D : SMeterConf → Int → Prop) (b : Nat) (o : OV) (fs : List SFault) (d : Int) (u : Value) (xs : List SMeterConf) (most : Nat) (w : World) (hen : Gx.Enters Try.prog f) (h : At (FR b o fs d) w) (hxs : ∀ w1, Keeps (FR b o fs d).foot w w1 → IsSl eMeterConf w1 u xs) (hk : FnB2 Try.prog f fst cap (FR b o fs d).foot w eMeterConf iE iE D g) (hD : ∀ i : Nat, i < xs.length → D (xs.getD i eMeterConf.zero) i) (hd : 0 ≤ d ∧ d + xs.length ≤ 4611686018427387904) (hf : fs.length + most ≤ 100000) : Calls Try.prog 71 #[.pointer (some ⟨b, 0, none⟩), u, I most, (bnd f fst cap).v] w (RetR w (FR b o fs d) (fun _ : OV => True) (fun _ => .tuple #[]) (fun o2 => FR b o2 (fs ++ listG (fun j0 : Nat => g (xs.getD j0 eMeterConf.zero) j0) d xs.length most) (d + xs.length))) := by
  obtain ⟨m, hm⟩ : ∃ m : Nat, (min (xs.length : Int) (most : Int)) = (m : Int) := ⟨min xs.length most, by omega⟩
  have hm2 : m = min xs.length most := by omega
  have hle := (hxs w (Keeps.refl _ _)).le
  have htl : (xs.take m).length = m := by simp; omega
  refine enter (FR b o fs d).foot 76 [FR b o fs d] Try.func71 rfl rfl (Nat.le_of_ble_eq_true rfl) (start_at h) ?_
  refine sepOut Rem.head ?_
  refine seq (sg (mv rfl (mv rfl (co (Ev.len Try.underlying25 (.t rfl) (fun w I => hxs w I.keeps)) ?_))))
  refine mv rfl (co (Ev.to (v' := I ((m : Nat) : Int)) (Ev.min_i (.t rfl) (.t rfl)) (by rw [hm])) ?_)
  refine co (Ev.sliceH Try.underlying25 ty95 (.t rfl) (.t rfl) (fun w I => hxs w I.keeps) (fun _ => by omega)) ?_
  refine co (Ev.len Try.underlying25 (.t rfl) (fun w I => by have := (hxs w I.keeps).sub (l := 0) (k := m) (by omega) (by omega); simpa using this)) ?_
  refine co (Ev.move (.c (v := I 0) rfl)) ?_
  refine nP (block (lp (X := Int × OV) (fun x : Int × OV => (0 ≤ x.1 ∧ x.1 ≤ m)) (fun x : Int × OV => [dz, (0, true, .pointer (some ⟨b, 0, none⟩)), (1, true, u), (2, true, I most), (3, true, (bnd f fst cap).v), (16, true, subS eMeterConf.size u 0 m), (17, true, I (xs.take m).length), (18, true, I x.1)]) (fun x : Int × OV => [Var b eConfFaults ⟨x.2, d⟩ 159, OwnS x.2.v eFault (fs ++ faultsUp (fun j0 : Nat => g (xs.getD j0 eMeterConf.zero) j0) d x.1.toNat) 171]) (fun x : Int × OV => ((m : Int) - x.1).toNat) (0, o) ?_ (fun x hx => ?_) (hL := (by simp only [show (0 : Int).toNat = 0 from rfl, faultsUp, List.append_nil]; repeat first | exact sR | exact sN | apply sC | apply sS | apply sA))))
  · omega
  obtain ⟨i, q⟩ := x
  have hi : 0 ≤ i ∧ i ≤ m := hx
  clear hx
  show Sat _ _ [dz, (0, true, .pointer (some ⟨b, 0, none⟩)), (1, true, u), (2, true, I most), (3, true, (bnd f fst cap).v), (16, true, subS eMeterConf.size u 0 m), (17, true, I (xs.take m).length), (18, true, I i)] [Var b eConfFaults ⟨q, d⟩ 159, OwnS q.v eFault (fs ++ faultsUp (fun j0 : Nat => g (xs.getD j0 eMeterConf.zero) j0) d i.toNat) 171]
  refine sg (co (Ev.lss_i (.t rfl) (.t rfl)) ?_)
  refine nP (seq ?_)
  first | refine condD rfl (fun h0 => ?_) (fun h0 => ?_) | refine cond rfl (fun h0 => ?_) (fun h0 => ?_)
  · try simp only [Gx.nb] at h0
    refine skip (pN (seq (block (sg (mv rfl (co (Ev.indexAddr Try.underlying25 ty95 (.t rfl) (.t rfl) (fun w I => by have := (hxs w I.keeps).sub (l := 0) (k := m) (by omega) (by omega); simpa using this) (fun _ => by omega)) ?_))))))
    refine co (Ev.to (v' := eMeterConf.val (xs.getD i.toNat eMeterConf.zero)) (Ev.loadS0 ty95 (.t rfl) (fun w I => by have := (hxs w I.keeps).sub (l := 0) (k := m) (by omega) (by omega); simpa using this) (fun _ => by omega)) (congrArg eMeterConf.val (getD_take'' xs m i.toNat _ (by omega)))) ?_
    refine cons (alloc z95 (fun b1 => ?_))
    refine asn rfl (cons (stv ty95 (Lens.id _) (.t rfl) (.t rfl) ?_))
    refine nP (sg (mv rfl (co (Ev.ldv ty95 (.t rfl) (Lens.id _)) ?_)))
    refine mv rfl (cons (callbv (.t rfl) hen (.cons (.t rfl) (.cons (.t rfl) .nil)) (fun w I => hk (xs.getD i.toNat eMeterConf.zero) i w (by have := hD i.toNat (by omega); rwa [show ((i.toNat : Nat) : Int) = i by omega] at this) I.keeps) ?_))
    refine asn rfl (nP (sg (mv rfl (co (Ev.neq_i (.t rfl) (.c (v := I 0) rfl)) ?_))))
    refine nP ?_
    first | refine condD rfl (fun h1 => ?_) (fun h1 => ?_) | refine cond rfl (fun h1 => ?_) (fun h1 => ?_)
    · try simp only [Gx.nb] at h1
      have ei : ((i.toNat : Nat) : Int) = i := by omega
      have hst := faultsUp_bad (e := (fun j0 : Nat => g (xs.getD j0 eMeterConf.zero) j0)) (d := d) hi.1 (by (try dsimp only); rw [ei]; exact h1)
      (try dsimp only at hst)
      rw [ei] at hst
      refine draw [] (by kernel_rfl) ?_
      refine tk 0 rfl (Ev.move (.t rfl)) ?_
      refine tk 1 rfl (Ev.move (.t rfl)) ?_
      refine tk 2 rfl (Ev.nilCheck (.t rfl)) ?_
      refine tk 3 rfl (fA 0 (.t rfl)) ?_
      refine tk 5 rfl (Ev.move (.t rfl)) ?_
      refine tk 6 rfl (Ev.move (.t rfl)) ?_
      refine tk 7 rfl (Ev.nilCheck (.t rfl)) ?_
      refine tk 8 rfl (fA 1 (.t rfl)) ?_
      refine tk 10 rfl (Ev.move (.t rfl)) ?_
      refine all [4, 9] (by kernel_rfl) (by decide) (.cons rfl ?_ (.cons rfl ?_ .nil))
      · refine (opv (Ev.ldv ty120 (.t rfl) SConfFaults.l_l) ?_)
        refine hdn (al1 9 rfl ((opv (Ev.ldv ty3 (.t rfl) SConfFaults.l_at_) ?_)))
        refine hdn (tk 11 rfl (Ev.add_i (.t rfl) (.t rfl) (fun _ => by simp; omega)) ?_)
        refine tk 12 rfl (Ev.buildS (fs := _) (places := [(0, 1), (1, 1)]) z171 rfl Try.underlying171 (by kernel_rfl) (.cons (.t rfl) (.cons (.t rfl) .nil)) (Fills.cons SFault.l_code rfl (Fills.cons SFault.l_at_ rfl Fills.nil))) ?_
        refine al1 13 rfl ((buildSlice (E := eFault) Try.underlying120 ty171 z171 (.cons (.t rfl) .nil) rfl rfl (fun v2 => ?_)))
        refine hdn (al1 14 rfl ((app (E := eFault) Try.underlying120 ty171 zb171 zs171 (.t rfl) (.t rfl) (fun v3 => ?_) (hby := ⟨by (show _ ≤ 9223372036854775807); have := faultsUp_len (fun j0 : Nat => g (xs.getD j0 eMeterConf.zero) j0) d i.toNat; simp only [List.length_append, List.length_cons, List.length_nil]; omega, by have := faultsUp_len (fun j0 : Nat => g (xs.getD j0 eMeterConf.zero) j0) d i.toNat; simp only [List.length_append, List.length_cons, List.length_nil]; omega⟩))))
        refine hdn (tk 15 rfl (Ev.nilCheck (.t rfl)) ?_)
        refine tk 16 rfl (fA 0 (.t rfl)) ?_
        refine al1 17 rfl ((stv ty120 SConfFaults.l_l (.t rfl) (.t rfl) ?_))
        refine hdn (ovr (bN (pN (region (co (Ev.add_i (.t rfl) (.c (v := I 1) rfl) (fun _ => by omega)) ?_)))))
        refine mv rfl (nP (nx (X := Int × OV) (i + 1, _) ?_ ?_ (hL := (by rw [hst]; (try rw [← List.append_assoc]); repeat first | exact sR | exact sN | apply sC | apply sS | apply sA))))
        · try dsimp only
          omega
        · try dsimp only
          omega
      · refine (opv (Ev.ldv ty3 (.t rfl) SConfFaults.l_at_) ?_)
        refine hdn (tk 11 rfl (Ev.add_i (.t rfl) (.t rfl) (fun _ => by simp; omega)) ?_)
        refine tk 12 rfl (Ev.buildS (fs := _) (places := [(0, 1), (1, 1)]) z171 rfl Try.underlying171 (by kernel_rfl) (.cons (.t rfl) (.cons (.t rfl) .nil)) (Fills.cons SFault.l_code rfl (Fills.cons SFault.l_at_ rfl Fills.nil))) ?_
        refine all [4, 13] (by kernel_rfl) (by decide) (.cons rfl ?_ (.cons rfl ?_ .nil))
        · refine (opv (Ev.ldv ty120 (.t rfl) SConfFaults.l_l) ?_)
          refine hdn (al1 13 rfl ((buildSlice (E := eFault) Try.underlying120 ty171 z171 (.cons (.t rfl) .nil) rfl rfl (fun v4 => ?_))))
          refine hdn (al1 14 rfl ((app (E := eFault) Try.underlying120 ty171 zb171 zs171 (.t rfl) (.t rfl) (fun v5 => ?_) (hby := ⟨by (show _ ≤ 9223372036854775807); have := faultsUp_len (fun j0 : Nat => g (xs.getD j0 eMeterConf.zero) j0) d i.toNat; simp only [List.length_append, List.length_cons, List.length_nil]; omega, by have := faultsUp_len (fun j0 : Nat => g (xs.getD j0 eMeterConf.zero) j0) d i.toNat; simp only [List.length_append, List.length_cons, List.length_nil]; omega⟩))))
          refine hdn (tk 15 rfl (Ev.nilCheck (.t rfl)) ?_)
          refine tk 16 rfl (fA 0 (.t rfl)) ?_
          refine al1 17 rfl ((stv ty120 SConfFaults.l_l (.t rfl) (.t rfl) ?_))
          refine hdn (ovr (bN (pN (region (co (Ev.add_i (.t rfl) (.c (v := I 1) rfl) (fun _ => by omega)) ?_)))))
          refine mv rfl (nP (nx (X := Int × OV) (i + 1, _) ?_ ?_ (hL := (by rw [hst]; (try rw [← List.append_assoc]); repeat first | exact sR | exact sN | apply sC | apply sS | apply sA))))
          · try dsimp only
            omega
          · try dsimp only
            omega
        · refine (buildSlice (E := eFault) Try.underlying120 ty171 z171 (.cons (.t rfl) .nil) rfl rfl (fun v6 => ?_))
          refine hdn (al1 4 rfl ((opv (Ev.ldv ty120 (.t rfl) SConfFaults.l_l) ?_)))
          refine hdn (al1 14 rfl ((app (E := eFault) Try.underlying120 ty171 zb171 zs171 (.t rfl) (.t rfl) (fun v7 => ?_) (hby := ⟨by (show _ ≤ 9223372036854775807); have := faultsUp_len (fun j0 : Nat => g (xs.getD j0 eMeterConf.zero) j0) d i.toNat; simp only [List.length_append, List.length_cons, List.length_nil]; omega, by have := faultsUp_len (fun j0 : Nat => g (xs.getD j0 eMeterConf.zero) j0) d i.toNat; simp only [List.length_append, List.length_cons, List.length_nil]; omega⟩))))
          refine hdn (tk 15 rfl (Ev.nilCheck (.t rfl)) ?_)
          refine tk 16 rfl (fA 0 (.t rfl)) ?_
          refine al1 17 rfl ((stv ty120 SConfFaults.l_l (.t rfl) (.t rfl) ?_))
          refine hdn (ovr (bN (pN (region (co (Ev.add_i (.t rfl) (.c (v := I 1) rfl) (fun _ => by omega)) ?_)))))
          refine mv rfl (nP (nx (X := Int × OV) (i + 1, _) ?_ ?_ (hL := (by rw [hst]; (try rw [← List.append_assoc]); repeat first | exact sR | exact sN | apply sC | apply sS | apply sA))))
          · try dsimp only
            omega
          · try dsimp only
            omega
    · try simp only [Gx.nb] at h1
      have ei : ((i.toNat : Nat) : Int) = i := by omega
      have hst := faultsUp_ok (e := (fun j0 : Nat => g (xs.getD j0 eMeterConf.zero) j0)) (d := d) hi.1 (by (try dsimp only); rw [ei]; exact h1)
      refine skip (bN (pN (region (co (Ev.add_i (.t rfl) (.c (v := I 1) rfl) (fun _ => by omega)) ?_))))
      refine mv rfl (nP (nx (X := Int × OV) (i + 1, _) ?_ ?_ (hL := (by rw [hst]; (try rw [← List.append_assoc]); repeat first | exact sR | exact sN | apply sC | apply sS | apply sA))))
      · try dsimp only
        omega
      · try dsimp only
        omega
  · try simp only [Gx.nb] at h0
    refine exit (pX (pX (bX (pN (cut (X := OV) (fun x : OV => True) (fun x : OV => [dz, (0, true, .pointer (some ⟨b, 0, none⟩)), (1, true, u)]) (fun x : OV => [Var b eConfFaults ⟨x, d⟩ 159, OwnS x.v eFault (fs ++ listG (fun j0 : Nat => g (xs.getD j0 eMeterConf.zero) j0) d xs.length most) 171]) ?_ (fun x hx => ?_))))))
    · refine sg ?_
      have him : i.toNat = m := by omega
      rw [him]
      refine mv rfl (co (Ev.len Try.underlying25 (.t rfl) (fun w I => hxs w I.keeps)) ?_)
      refine mv rfl (co (Ev.gtr_i (.t rfl) (.t rfl)) ?_)
      refine nP ?_
      first | refine condD rfl (fun h2 => ?_) (fun h2 => ?_) | refine cond rfl (fun h2 => ?_) (fun h2 => ?_)
      · try simp only [Gx.nb] at h2
        refine draw [] (by kernel_rfl) ?_
        refine tk 0 rfl (Ev.move (.t rfl)) ?_
        refine tk 1 rfl (Ev.move (.t rfl)) ?_
        refine tk 2 rfl (Ev.nilCheck (.t rfl)) ?_
        refine tk 3 rfl (fA 0 (.t rfl)) ?_
        refine tk 5 rfl (Ev.move (.t rfl)) ?_
        refine tk 6 rfl (Ev.nilCheck (.t rfl)) ?_
        refine tk 7 rfl (fA 1 (.t rfl)) ?_
        refine tk 9 rfl (Ev.move (.t rfl)) ?_
        refine all [4, 8] (by kernel_rfl) (by decide) (.cons rfl ?_ (.cons rfl ?_ .nil))
        · refine (opv (Ev.ldv ty120 (.t rfl) SConfFaults.l_l) ?_)
          refine hdn (al1 8 rfl ((opv (Ev.ldv ty3 (.t rfl) SConfFaults.l_at_) ?_)))
          refine hdn (tk 10 rfl (Ev.add_i (.t rfl) (.t rfl) (fun _ => by simp; omega)) ?_)
          refine tk 11 rfl (Ev.buildS (fs := _) (places := [(0, 1), (1, 1)]) z171 rfl Try.underlying171 (by kernel_rfl) (.cons (.c (v := I 4) rfl) (.cons (.t rfl) .nil)) (Fills.cons SFault.l_code rfl (Fills.cons SFault.l_at_ rfl Fills.nil))) ?_
          refine al1 12 rfl ((buildSlice (E := eFault) Try.underlying120 ty171 z171 (.cons (.t rfl) .nil) rfl rfl (fun v8 => ?_)))
          refine hdn (al1 13 rfl ((app (E := eFault) Try.underlying120 ty171 zb171 zs171 (.t rfl) (.t rfl) (fun v9 => ?_) (hby := ⟨by (show _ ≤ 9223372036854775807); have := faultsUp_len (fun j0 : Nat => g (xs.getD j0 eMeterConf.zero) j0) d m; simp only [List.length_append, List.length_cons, List.length_nil]; omega, by have := faultsUp_len (fun j0 : Nat => g (xs.getD j0 eMeterConf.zero) j0) d m; simp only [List.length_append, List.length_cons, List.length_nil]; omega⟩))))
          refine hdn (tk 14 rfl (Ev.nilCheck (.t rfl)) ?_)
          refine tk 15 rfl (fA 0 (.t rfl)) ?_
          refine al1 16 rfl ((stv ty120 SConfFaults.l_l (.t rfl) (.t rfl) ?_))
          refine hdn (ovr (pN (mt (X := OV) (_) trivial (hL := (by unfold listG; rw [← hm2]; (first | rw [if_pos (by omega), ← List.append_assoc] | rw [if_neg (by omega), List.append_nil]); repeat first | exact sR | exact sN | apply sC | apply sS | apply sA)))))
        · refine (opv (Ev.ldv ty3 (.t rfl) SConfFaults.l_at_) ?_)
          refine hdn (tk 10 rfl (Ev.add_i (.t rfl) (.t rfl) (fun _ => by simp; omega)) ?_)
          refine tk 11 rfl (Ev.buildS (fs := _) (places := [(0, 1), (1, 1)]) z171 rfl Try.underlying171 (by kernel_rfl) (.cons (.c (v := I 4) rfl) (.cons (.t rfl) .nil)) (Fills.cons SFault.l_code rfl (Fills.cons SFault.l_at_ rfl Fills.nil))) ?_
          refine all [4, 12] (by kernel_rfl) (by decide) (.cons rfl ?_ (.cons rfl ?_ .nil))
          · refine (opv (Ev.ldv ty120 (.t rfl) SConfFaults.l_l) ?_)
            refine hdn (al1 12 rfl ((buildSlice (E := eFault) Try.underlying120 ty171 z171 (.cons (.t rfl) .nil) rfl rfl (fun v10 => ?_))))
            refine hdn (al1 13 rfl ((app (E := eFault) Try.underlying120 ty171 zb171 zs171 (.t rfl) (.t rfl) (fun v11 => ?_) (hby := ⟨by (show _ ≤ 9223372036854775807); have := faultsUp_len (fun j0 : Nat => g (xs.getD j0 eMeterConf.zero) j0) d m; simp only [List.length_append, List.length_cons, List.length_nil]; omega, by have := faultsUp_len (fun j0 : Nat => g (xs.getD j0 eMeterConf.zero) j0) d m; simp only [List.length_append, List.length_cons, List.length_nil]; omega⟩))))
            refine hdn (tk 14 rfl (Ev.nilCheck (.t rfl)) ?_)
            refine tk 15 rfl (fA 0 (.t rfl)) ?_
            refine al1 16 rfl ((stv ty120 SConfFaults.l_l (.t rfl) (.t rfl) ?_))
            refine hdn (ovr (pN (mt (X := OV) (_) trivial (hL := (by unfold listG; rw [← hm2]; (first | rw [if_pos (by omega), ← List.append_assoc] | rw [if_neg (by omega), List.append_nil]); repeat first | exact sR | exact sN | apply sC | apply sS | apply sA)))))
          · refine (buildSlice (E := eFault) Try.underlying120 ty171 z171 (.cons (.t rfl) .nil) rfl rfl (fun v12 => ?_))
            refine hdn (al1 4 rfl ((opv (Ev.ldv ty120 (.t rfl) SConfFaults.l_l) ?_)))
            refine hdn (al1 13 rfl ((app (E := eFault) Try.underlying120 ty171 zb171 zs171 (.t rfl) (.t rfl) (fun v13 => ?_) (hby := ⟨by (show _ ≤ 9223372036854775807); have := faultsUp_len (fun j0 : Nat => g (xs.getD j0 eMeterConf.zero) j0) d m; simp only [List.length_append, List.length_cons, List.length_nil]; omega, by have := faultsUp_len (fun j0 : Nat => g (xs.getD j0 eMeterConf.zero) j0) d m; simp only [List.length_append, List.length_cons, List.length_nil]; omega⟩))))
            refine hdn (tk 14 rfl (Ev.nilCheck (.t rfl)) ?_)
            refine tk 15 rfl (fA 0 (.t rfl)) ?_
            refine al1 16 rfl ((stv ty120 SConfFaults.l_l (.t rfl) (.t rfl) ?_))
            refine hdn (ovr (pN (mt (X := OV) (_) trivial (hL := (by unfold listG; rw [← hm2]; (first | rw [if_pos (by omega), ← List.append_assoc] | rw [if_neg (by omega), List.append_nil]); repeat first | exact sR | exact sN | apply sC | apply sS | apply sA)))))
      · try simp only [Gx.nb] at h2
        refine skip (pN (mt (X := OV) (_) trivial (hL := (by unfold listG; rw [← hm2]; (first | rw [if_pos (by omega), ← List.append_assoc] | rw [if_neg (by omega), List.append_nil]); repeat first | exact sR | exact sN | apply sC | apply sS | apply sA))))
    obtain ⟨q2, rfl⟩ : ∃ y, y = x := ⟨x, rfl⟩
    show Sat _ _ [dz, (0, true, .pointer (some ⟨b, 0, none⟩)), (1, true, u)] [Var b eConfFaults ⟨q2, d⟩ 159, OwnS q2.v eFault (fs ++ listG (fun j0 : Nat => g (xs.getD j0 eMeterConf.zero) j0) d xs.length most) 171]
    refine region (mv rfl (co (Ev.nilCheck (.t rfl)) ?_))
    refine co (fA 1 (.t rfl)) ?_
    refine co (Ev.ldv ty3 (.t rfl) SConfFaults.l_at_) ?_
    refine mv rfl (co (Ev.len Try.underlying25 (.t rfl) (fun w I => hxs w I.keeps)) ?_)
    refine co (Ev.add_i (.t rfl) (.t rfl) (fun _ => by simp; omega)) ?_
    refine co (Ev.nilCheck (.t rfl)) ?_
    refine co (fA 1 (.t rfl)) ?_
    refine cons (stv ty3 SConfFaults.l_at_ (.t rfl) (.t rfl) ?_)
    refine nil (done' rfl .nil (fun w I => ?_))
    exact retR (r' := fun o2 => FR b o2 (fs ++ listG (fun j0 : Nat => g (xs.getD j0 eMeterConf.zero) j0) d xs.length most) (d + xs.length)) _ trivial rfl (List.mem_singleton_self _) w (WInv.sepIn (I.sub (by repeat first | exact sR | exact sN | apply sC | apply sS | apply sA)))
theorem list_97 (f : Nat) (fst cap : List Value) (g : SMirrorConf → Int → Int) (D : SMirrorConf → Int → Prop) (b : Nat) (o : OV) (fs : List SFault) (d : Int) (u : Value) (xs : List SMirrorConf) (most : Nat) (w : World) (hen : Gx.Enters Try.prog f) (h : At (FR b o fs d) w) (hxs : ∀ w1, Keeps (FR b o fs d).foot w w1 → IsSl eMirrorConf w1 u xs) (hk : FnB2 Try.prog f fst cap (FR b o fs d).foot w eMirrorConf iE iE D g) (hD : ∀ i : Nat, i < xs.length → D (xs.getD i eMirrorConf.zero) i) (hd : 0 ≤ d ∧ d + xs.length ≤ 4611686018427387904) (hf : fs.length + most ≤ 100000) : Calls Try.prog 73 #[.pointer (some ⟨b, 0, none⟩), u, I most, (bnd f fst cap).v] w (RetR w (FR b o fs d) (fun _ : OV => True) (fun _ => .tuple #[]) (fun o2 => FR b o2 (fs ++ listG (fun j0 : Nat => g (xs.getD j0 eMirrorConf.zero) j0) d xs.length most) (d + xs.length))) := by
  obtain ⟨m, hm⟩ : ∃ m : Nat, (min (xs.length : Int) (most : Int)) = (m : Int) := ⟨min xs.length most, by omega⟩
  have hm2 : m = min xs.length most := by omega
  have hle := (hxs w (Keeps.refl _ _)).le
  have htl : (xs.take m).length = m := by simp; omega
  refine enter (FR b o fs d).foot 76 [FR b o fs d] Try.func73 rfl rfl (Nat.le_of_ble_eq_true rfl) (start_at h) ?_
  refine sepOut Rem.head ?_
  refine seq (sg (mv rfl (mv rfl (co (Ev.len Try.underlying26 (.t rfl) (fun w I => hxs w I.keeps)) ?_))))
  refine mv rfl (co (Ev.to (v' := I ((m : Nat) : Int)) (Ev.min_i (.t rfl) (.t rfl)) (by rw [hm])) ?_)
  refine co (Ev.sliceH Try.underlying26 ty97 (.t rfl) (.t rfl) (fun w I => hxs w I.keeps) (fun _ => by omega)) ?_
  refine co (Ev.len Try.underlying26 (.t rfl) (fun w I => by have := (hxs w I.keeps).sub (l := 0) (k := m) (by omega) (by omega); simpa using this)) ?_
  refine co (Ev.move (.c (v := I 0) rfl)) ?_
  refine nP (block (lp (X := Int × OV) (fun x : Int × OV => (0 ≤ x.1 ∧ x.1 ≤ m)) (fun x : Int × OV => [dz, (0, true, .pointer (some ⟨b, 0, none⟩)), (1, true, u), (2, true, I most), (3, true, (bnd f fst cap).v), (16, true, subS eMirrorConf.size u 0 m), (17, true, I (xs.take m).length), (18, true, I x.1)]) (fun x : Int × OV => [Var b eConfFaults ⟨x.2, d⟩ 159, OwnS x.2.v eFault (fs ++ faultsUp (fun j0 : Nat => g (xs.getD j0 eMirrorConf.zero) j0) d x.1.toNat) 171]) (fun x : Int × OV => ((m : Int) - x.1).toNat) (0, o) ?_ (fun x hx => ?_) (hL := (by simp only [show (0 : Int).toNat = 0 from rfl, faultsUp, List.append_nil]; repeat first | exact sR | exact sN | apply sC | apply sS | apply sA))))
  · omega
  obtain ⟨i, q⟩ := x
  have hi : 0 ≤ i ∧ i ≤ m := hx
  clear hx
  show Sat _ _ [dz, (0, true, .pointer (some ⟨b, 0, none⟩)), (1, true, u), (2, true, I most), (3, true, (bnd f fst cap).v), (16, true, subS eMirrorConf.size u 0 m), (17, true, I (xs.take m).length), (18, true, I i)] [Var b eConfFaults ⟨q, d⟩ 159, OwnS q.v eFault (fs ++ faultsUp (fun j0 : Nat => g (xs.getD j0 eMirrorConf.zero) j0) d i.toNat) 171]
  refine sg (co (Ev.lss_i (.t rfl) (.t rfl)) ?_)
  refine nP (seq ?_)
  first | refine condD rfl (fun h0 => ?_) (fun h0 => ?_) | refine cond rfl (fun h0 => ?_) (fun h0 => ?_)
  · try simp only [Gx.nb] at h0
    refine skip (pN (seq (block (sg (mv rfl (co (Ev.indexAddr Try.underlying26 ty97 (.t rfl) (.t rfl) (fun w I => by have := (hxs w I.keeps).sub (l := 0) (k := m) (by omega) (by omega); simpa using this) (fun _ => by omega)) ?_))))))
    refine co (Ev.to (v' := eMirrorConf.val (xs.getD i.toNat eMirrorConf.zero)) (Ev.loadS0 ty97 (.t rfl) (fun w I => by have := (hxs w I.keeps).sub (l := 0) (k := m) (by omega) (by omega); simpa using this) (fun _ => by omega)) (congrArg eMirrorConf.val (getD_take'' xs m i.toNat _ (by omega)))) ?_
    refine cons (alloc z97 (fun b1 => ?_))
    refine asn rfl (cons (stv ty97 (Lens.id _) (.t rfl) (.t rfl) ?_))
    refine nP (sg (mv rfl (co (Ev.ldv ty97 (.t rfl) (Lens.id _)) ?_)))
    refine mv rfl (cons (callbv (.t rfl) hen (.cons (.t rfl) (.cons (.t rfl) .nil)) (fun w I => hk (xs.getD i.toNat eMirrorConf.zero) i w (by have := hD i.toNat (by omega); rwa [show ((i.toNat : Nat) : Int) = i by omega] at this) I.keeps) ?_))
    refine asn rfl (nP (sg (mv rfl (co (Ev.neq_i (.t rfl) (.c (v := I 0) rfl)) ?_))))
    refine nP ?_
    first | refine condD rfl (fun h1 => ?_) (fun h1 => ?_) | refine cond rfl (fun h1 => ?_) (fun h1 => ?_)
    · try simp only [Gx.nb] at h1
      have ei : ((i.toNat : Nat) : Int) = i := by omega
      have hst := faultsUp_bad (e := (fun j0 : Nat => g (xs.getD j0 eMirrorConf.zero) j0)) (d := d) hi.1 (by (try dsimp only); rw [ei]; exact h1)
      (try dsimp only at hst)
      rw [ei] at hst
      refine draw [] (by kernel_rfl) ?_
      refine tk 0 rfl (Ev.move (.t rfl)) ?_
      refine tk 1 rfl (Ev.move (.t rfl)) ?_
      refine tk 2 rfl (Ev.nilCheck (.t rfl)) ?_
      refine tk 3 rfl (fA 0 (.t rfl)) ?_
      refine tk 5 rfl (Ev.move (.t rfl)) ?_
      refine tk 6 rfl (Ev.move (.t rfl)) ?_
      refine tk 7 rfl (Ev.nilCheck (.t rfl)) ?_
      refine tk 8 rfl (fA 1 (.t rfl)) ?_
      refine tk 10 rfl (Ev.move (.t rfl)) ?_
      refine all [4, 9] (by kernel_rfl) (by decide) (.cons rfl ?_ (.cons rfl ?_ .nil))
      · refine (opv (Ev.ldv ty120 (.t rfl) SConfFaults.l_l) ?_)
        refine hdn (al1 9 rfl ((opv (Ev.ldv ty3 (.t rfl) SConfFaults.l_at_) ?_)))
        refine hdn (tk 11 rfl (Ev.add_i (.t rfl) (.t rfl) (fun _ => by simp; omega)) ?_)
        refine tk 12 rfl (Ev.buildS (fs := _) (places := [(0, 1), (1, 1)]) z171 rfl Try.underlying171 (by kernel_rfl) (.cons (.t rfl) (.cons (.t rfl) .nil)) (Fills.cons SFault.l_code rfl (Fills.cons SFault.l_at_ rfl Fills.nil))) ?_
        refine al1 13 rfl ((buildSlice (E := eFault) Try.underlying120 ty171 z171 (.cons (.t rfl) .nil) rfl rfl (fun v2 => ?_)))
        refine hdn (al1 14 rfl ((app (E := eFault) Try.underlying120 ty171 zb171 zs171 (.t rfl) (.t rfl) (fun v3 => ?_) (hby := ⟨by (show _ ≤ 9223372036854775807); have := faultsUp_len (fun j0 : Nat => g (xs.getD j0 eMirrorConf.zero) j0) d i.toNat; simp only [List.length_append, List.length_cons, List.length_nil]; omega, by have := faultsUp_len (fun j0 : Nat => g (xs.getD j0 eMirrorConf.zero) j0) d i.toNat; simp only [List.length_append, List.length_cons, List.length_nil]; omega⟩))))
        refine hdn (tk 15 rfl (Ev.nilCheck (.t rfl)) ?_)
        refine tk 16 rfl (fA 0 (.t rfl)) ?_
        refine al1 17 rfl ((stv ty120 SConfFaults.l_l (.t rfl) (.t rfl) ?_))
        refine hdn (ovr (bN (pN (region (co (Ev.add_i (.t rfl) (.c (v := I 1) rfl) (fun _ => by omega)) ?_)))))
        refine mv rfl (nP (nx (X := Int × OV) (i + 1, _) ?_ ?_ (hL := (by rw [hst]; (try rw [← List.append_assoc]); repeat first | exact sR | exact sN | apply sC | apply sS | apply sA))))
        · try dsimp only
          omega
        · try dsimp only
          omega
      · refine (opv (Ev.ldv ty3 (.t rfl) SConfFaults.l_at_) ?_)
        refine hdn (tk 11 rfl (Ev.add_i (.t rfl) (.t rfl) (fun _ => by simp; omega)) ?_)
        refine tk 12 rfl (Ev.buildS (fs := _) (places := [(0, 1), (1, 1)]) z171 rfl Try.underlying171 (by kernel_rfl) (.cons (.t rfl) (.cons (.t rfl) .nil)) (Fills.cons SFault.l_code rfl (Fills.cons SFault.l_at_ rfl Fills.nil))) ?_
        refine all [4, 13] (by kernel_rfl) (by decide) (.cons rfl ?_ (.cons rfl ?_ .nil))
        · refine (opv (Ev.ldv ty120 (.t rfl) SConfFaults.l_l) ?_)
          refine hdn (al1 13 rfl ((buildSlice (E := eFault) Try.underlying120 ty171 z171 (.cons (.t rfl) .nil) rfl rfl (fun v4 => ?_))))
          refine hdn (al1 14 rfl ((app (E := eFault) Try.underlying120 ty171 zb171 zs171 (.t rfl) (.t rfl) (fun v5 => ?_) (hby := ⟨by (show _ ≤ 9223372036854775807); have := faultsUp_len (fun j0 : Nat => g (xs.getD j0 eMirrorConf.zero) j0) d i.toNat; simp only [List.length_append, List.length_cons, List.length_nil]; omega, by have := faultsUp_len (fun j0 : Nat => g (xs.getD j0 eMirrorConf.zero) j0) d i.toNat; simp only [List.length_append, List.length_cons, List.length_nil]; omega⟩))))
          refine hdn (tk 15 rfl (Ev.nilCheck (.t rfl)) ?_)
          refine tk 16 rfl (fA 0 (.t rfl)) ?_
          refine al1 17 rfl ((stv ty120 SConfFaults.l_l (.t rfl) (.t rfl) ?_))
          refine hdn (ovr (bN (pN (region (co (Ev.add_i (.t rfl) (.c (v := I 1) rfl) (fun _ => by omega)) ?_)))))
          refine mv rfl (nP (nx (X := Int × OV) (i + 1, _) ?_ ?_ (hL := (by rw [hst]; (try rw [← List.append_assoc]); repeat first | exact sR | exact sN | apply sC | apply sS | apply sA))))
          · try dsimp only
            omega
          · try dsimp only
            omega
        · refine (buildSlice (E := eFault) Try.underlying120 ty171 z171 (.cons (.t rfl) .nil) rfl rfl (fun v6 => ?_))
          refine hdn (al1 4 rfl ((opv (Ev.ldv ty120 (.t rfl) SConfFaults.l_l) ?_)))
          refine hdn (al1 14 rfl ((app (E := eFault) Try.underlying120 ty171 zb171 zs171 (.t rfl) (.t rfl) (fun v7 => ?_) (hby := ⟨by (show _ ≤ 9223372036854775807); have := faultsUp_len (fun j0 : Nat => g (xs.getD j0 eMirrorConf.zero) j0) d i.toNat; simp only [List.length_append, List.length_cons, List.length_nil]; omega, by have := faultsUp_len (fun j0 : Nat => g (xs.getD j0 eMirrorConf.zero) j0) d i.toNat; simp only [List.length_append, List.length_cons, List.length_nil]; omega⟩))))
          refine hdn (tk 15 rfl (Ev.nilCheck (.t rfl)) ?_)
          refine tk 16 rfl (fA 0 (.t rfl)) ?_
          refine al1 17 rfl ((stv ty120 SConfFaults.l_l (.t rfl) (.t rfl) ?_))
          refine hdn (ovr (bN (pN (region (co (Ev.add_i (.t rfl) (.c (v := I 1) rfl) (fun _ => by omega)) ?_)))))
          refine mv rfl (nP (nx (X := Int × OV) (i + 1, _) ?_ ?_ (hL := (by rw [hst]; (try rw [← List.append_assoc]); repeat first | exact sR | exact sN | apply sC | apply sS | apply sA))))
          · try dsimp only
            omega
          · try dsimp only
            omega
    · try simp only [Gx.nb] at h1
      have ei : ((i.toNat : Nat) : Int) = i := by omega
      have hst := faultsUp_ok (e := (fun j0 : Nat => g (xs.getD j0 eMirrorConf.zero) j0)) (d := d) hi.1 (by (try dsimp only); rw [ei]; exact h1)
      refine skip (bN (pN (region (co (Ev.add_i (.t rfl) (.c (v := I 1) rfl) (fun _ => by omega)) ?_))))
      refine mv rfl (nP (nx (X := Int × OV) (i + 1, _) ?_ ?_ (hL := (by rw [hst]; (try rw [← List.append_assoc]); repeat first | exact sR | exact sN | apply sC | apply sS | apply sA))))
      · try dsimp only
        omega
      · try dsimp only
        omega
  · try simp only [Gx.nb] at h0
    refine exit (pX (pX (bX (pN (cut (X := OV) (fun x : OV => True) (fun x : OV => [dz, (0, true, .pointer (some ⟨b, 0, none⟩)), (1, true, u)]) (fun x : OV => [Var b eConfFaults ⟨x, d⟩ 159, OwnS x.v eFault (fs ++ listG (fun j0 : Nat => g (xs.getD j0 eMirrorConf.zero) j0) d xs.length most) 171]) ?_ (fun x hx => ?_))))))
    · refine sg ?_
      have him : i.toNat = m := by omega
      rw [him]
      refine mv rfl (co (Ev.len Try.underlying26 (.t rfl) (fun w I => hxs w I.keeps)) ?_)
      refine mv rfl (co (Ev.gtr_i (.t rfl) (.t rfl)) ?_)
      refine nP ?_
      first | refine condD rfl (fun h2 => ?_) (fun h2 => ?_) | refine cond rfl (fun h2 => ?_) (fun h2 => ?_)
      · try simp only [Gx.nb] at h2
        refine draw [] (by kernel_rfl) ?_
        refine tk 0 rfl (Ev.move (.t rfl)) ?_
        refine tk 1 rfl (Ev.move (.t rfl)) ?_
        refine tk 2 rfl (Ev.nilCheck (.t rfl)) ?_
        refine tk 3 rfl (fA 0 (.t rfl)) ?_
        refine tk 5 rfl (Ev.move (.t rfl)) ?_
        refine tk 6 rfl (Ev.nilCheck (.t rfl)) ?_
        refine tk 7 rfl (fA 1 (.t rfl)) ?_
        refine tk 9 rfl (Ev.move (.t rfl)) ?_
        refine all [4, 8] (by kernel_rfl) (by decide) (.cons rfl ?_ (.cons rfl ?_ .nil))
        · refine (opv (Ev.ldv ty120 (.t rfl) SConfFaults.l_l) ?_)
          refine hdn (al1 8 rfl ((opv (Ev.ldv ty3 (.t rfl) SConfFaults.l_at_) ?_)))
          refine hdn (tk 10 rfl (Ev.add_i (.t rfl) (.t rfl) (fun _ => by simp; omega)) ?_)
          refine tk 11 rfl (Ev.buildS (fs := _) (places := [(0, 1), (1, 1)]) z171 rfl Try.underlying171 (by kernel_rfl) (.cons (.c (v := I 4) rfl) (.cons (.t rfl) .nil)) (Fills.cons SFault.l_code rfl (Fills.cons SFault.l_at_ rfl Fills.nil))) ?_
          refine al1 12 rfl ((buildSlice (E := eFault) Try.underlying120 ty171 z171 (.cons (.t rfl) .nil) rfl rfl (fun v8 => ?_)))
          refine hdn (al1 13 rfl ((app (E := eFault) Try.underlying120 ty171 zb171 zs171 (.t rfl) (.t rfl) (fun v9 => ?_) (hby := ⟨by (show _ ≤ 9223372036854775807); have := faultsUp_len (fun j0 : Nat => g (xs.getD j0 eMirrorConf.zero) j0) d m; simp only [List.length_append, List.length_cons, List.length_nil]; omega, by have := faultsUp_len (fun j0 : Nat => g (xs.getD j0 eMirrorConf.zero) j0) d m; simp only [List.length_append, List.length_cons, List.length_nil]; omega⟩))))
          refine hdn (tk 14 rfl (Ev.nilCheck (.t rfl)) ?_)
          refine tk 15 rfl (fA 0 (.t rfl)) ?_
          refine al1 16 rfl ((stv ty120 SConfFaults.l_l (.t rfl) (.t rfl) ?_))
          refine hdn (ovr (pN (mt (X := OV) (_) trivial (hL := (by unfold listG; rw [← hm2]; (first | rw [if_pos (by omega), ← List.append_assoc] | rw [if_neg (by omega), List.append_nil]); repeat first | exact sR | exact sN | apply sC | apply sS | apply sA)))))
        · refine (opv (Ev.ldv ty3 (.t rfl) SConfFaults.l_at_) ?_)
          refine hdn (tk 10 rfl (Ev.add_i (.t rfl) (.t rfl) (fun _ => by simp; omega)) ?_)
          refine tk 11 rfl (Ev.buildS (fs := _) (places := [(0, 1), (1, 1)]) z171 rfl Try.underlying171 (by kernel_rfl) (.cons (.c (v := I 4) rfl) (.cons (.t rfl) .nil)) (Fills.cons SFault.l_code rfl (Fills.cons SFault.l_at_ rfl Fills.nil))) ?_
          refine all [4, 12] (by kernel_rfl) (by decide) (.cons rfl ?_ (.cons rfl ?_ .nil))
          · refine (opv (Ev.ldv ty120 (.t rfl) SConfFaults.l_l) ?_)
            refine hdn (al1 12 rfl ((buildSlice (E := eFault) Try.underlying120 ty171 z171 (.cons (.t rfl) .nil) rfl rfl (fun v10 => ?_))))
            refine hdn (al1 13 rfl ((app (E := eFault) Try.underlying120 ty171 zb171 zs171 (.t rfl) (.t rfl) (fun v11 => ?_) (hby := ⟨by (show _ ≤ 9223372036854775807); have := faultsUp_len (fun j0 : Nat => g (xs.getD j0 eMirrorConf.zero) j0) d m; simp only [List.length_append, List.length_cons, List.length_nil]; omega, by have := faultsUp_len (fun j0 : Nat => g (xs.getD j0 eMirrorConf.zero) j0) d m; simp only [List.length_append, List.length_cons, List.length_nil]; omega⟩))))
            refine hdn (tk 14 rfl (Ev.nilCheck (.t rfl)) ?_)
            refine tk 15 rfl (fA 0 (.t rfl)) ?_
            refine al1 16 rfl ((stv ty120 SConfFaults.l_l (.t rfl) (.t rfl) ?_))
            refine hdn (ovr (pN (mt (X := OV) (_) trivial (hL := (by unfold listG; rw [← hm2]; (first | rw [if_pos (by omega), ← List.append_assoc] | rw [if_neg (by omega), List.append_nil]); repeat first | exact sR | exact sN | apply sC | apply sS | apply sA)))))
          · refine (buildSlice (E := eFault) Try.underlying120 ty171 z171 (.cons (.t rfl) .nil) rfl rfl (fun v12 => ?_))
            refine hdn (al1 4 rfl ((opv (Ev.ldv ty120 (.t rfl) SConfFaults.l_l) ?_)))
            refine hdn (al1 13 rfl ((app (E := eFault) Try.underlying120 ty171 zb171 zs171 (.t rfl) (.t rfl) (fun v13 => ?_) (hby := ⟨by (show _ ≤ 9223372036854775807); have := faultsUp_len (fun j0 : Nat => g (xs.getD j0 eMirrorConf.zero) j0) d m; simp only [List.length_append, List.length_cons, List.length_nil]; omega, by have := faultsUp_len (fun j0 : Nat => g (xs.getD j0 eMirrorConf.zero) j0) d m; simp only [List.length_append, List.length_cons, List.length_nil]; omega⟩))))
            refine hdn (tk 14 rfl (Ev.nilCheck (.t rfl)) ?_)
            refine tk 15 rfl (fA 0 (.t rfl)) ?_
            refine al1 16 rfl ((stv ty120 SConfFaults.l_l (.t rfl) (.t rfl) ?_))
            refine hdn (ovr (pN (mt (X := OV) (_) trivial (hL := (by unfold listG; rw [← hm2]; (first | rw [if_pos (by omega), ← List.append_assoc] | rw [if_neg (by omega), List.append_nil]); repeat first | exact sR | exact sN | apply sC | apply sS | apply sA)))))
      · try simp only [Gx.nb] at h2
        refine skip (pN (mt (X := OV) (_) trivial (hL := (by unfold listG; rw [← hm2]; (first | rw [if_pos (by omega), ← List.append_assoc] | rw [if_neg (by omega), List.append_nil]); repeat first | exact sR | exact sN | apply sC | apply sS | apply sA))))
    obtain ⟨q2, rfl⟩ : ∃ y, y = x := ⟨x, rfl⟩
    show Sat _ _ [dz, (0, true, .pointer (some ⟨b, 0, none⟩)), (1, true, u)] [Var b eConfFaults ⟨q2, d⟩ 159, OwnS q2.v eFault (fs ++ listG (fun j0 : Nat => g (xs.getD j0 eMirrorConf.zero) j0) d xs.length most) 171]
    refine region (mv rfl (co (Ev.nilCheck (.t rfl)) ?_))
    refine co (fA 1 (.t rfl)) ?_
    refine co (Ev.ldv ty3 (.t rfl) SConfFaults.l_at_) ?_
    refine mv rfl (co (Ev.len Try.underlying26 (.t rfl) (fun w I => hxs w I.keeps)) ?_)
    refine co (Ev.add_i (.t rfl) (.t rfl) (fun _ => by simp; omega)) ?_
    refine co (Ev.nilCheck (.t rfl)) ?_
    refine co (fA 1 (.t rfl)) ?_
    refine cons (stv ty3 SConfFaults.l_at_ (.t rfl) (.t rfl) ?_)
    refine nil (done' rfl .nil (fun w I => ?_))
    exact retR (r' := fun o2 => FR b o2 (fs ++ listG (fun j0 : Nat => g (xs.getD j0 eMirrorConf.zero) j0) d xs.length most) (d + xs.length)) _ trivial rfl (List.mem_singleton_self _) w (WInv.sepIn (I.sub (by repeat first | exact sR | exact sN | apply sC | apply sS | apply sA)))
def defBad (d : Int) : Bool := !(decide (d = 1) || decide (d = 2) || decide (d = 4))
theorem defBad_eq (d : Int) : defBad d = (decide (¬ d = 1) && decide (¬ d = 2) && decide (¬ d = 4)) := by
  unfold defBad
  by_cases a : d = 1 <;> by_cases b : d = 2 <;> by_cases c : d = 4 <;> simp [a, b, c]
def thingsF (l : CL) : List SFault := ((((([] ++ listG (fun j0 : Nat => portE l.ps (l.ps.getD j0 iE.zero) j0) 0 l.ps.length 256) ++ listG (fun j0 : Nat => routeE l (l.rs.getD j0 eRoute.zero) j0) (0 + (l.ps.length : Int)) l.rs.length 1024) ++ listG (fun j0 : Nat => ruleE l (l.us.getD j0 eRule.zero) j0) ((0 + (l.ps.length : Int)) + (l.rs.length : Int)) l.us.length 256) ++ listG (fun j0 : Nat => meterE l (l.ms.getD j0 eMeterConf.zero) j0) (((0 + (l.ps.length : Int)) + (l.rs.length : Int)) + (l.us.length : Int)) l.ms.length 64) ++ listG (fun j0 : Nat => mirrorE l (l.xs.getD j0 eMirrorConf.zero) j0) ((((0 + (l.ps.length : Int)) + (l.rs.length : Int)) + (l.us.length : Int)) + (l.ms.length : Int)) l.xs.length 16)
def checkF (l : CL) (d : Int) : List SFault := thingsF l ++ (if defBad d = true then [⟨2, (((((0 + (l.ps.length : Int)) + (l.rs.length : Int)) + (l.us.length : Int)) + (l.ms.length : Int)) + (l.xs.length : Int))⟩] else [])
theorem listG_len (e : Nat → Int) (d : Int) (n most : Nat) : (listG e d n most).length ≤ most + 1 := by
  have := faultsUp_len e d (min n most)
  unfold listG
  rw [List.length_append]
  split <;> simp <;> omega
theorem thingsF_len (l : CL) : (thingsF l).length ≤ 1700 := by
  unfold thingsF
  simp only [List.length_append, List.length_nil]
  have h0 := listG_len (fun j0 : Nat => portE l.ps (l.ps.getD j0 iE.zero) j0) 0 l.ps.length 256
  have h1 := listG_len (fun j0 : Nat => routeE l (l.rs.getD j0 eRoute.zero) j0) (0 + (l.ps.length : Int)) l.rs.length 1024
  have h2 := listG_len (fun j0 : Nat => ruleE l (l.us.getD j0 eRule.zero) j0) ((0 + (l.ps.length : Int)) + (l.rs.length : Int)) l.us.length 256
  have h3 := listG_len (fun j0 : Nat => meterE l (l.ms.getD j0 eMeterConf.zero) j0) (((0 + (l.ps.length : Int)) + (l.rs.length : Int)) + (l.us.length : Int)) l.ms.length 64
  have h4 := listG_len (fun j0 : Nat => mirrorE l (l.xs.getD j0 eMirrorConf.zero) j0) ((((0 + (l.ps.length : Int)) + (l.rs.length : Int)) + (l.us.length : Int)) + (l.ms.length : Int)) l.xs.length 16
  omega
structure CL.Names (l : CL) : Prop where
  us : ∀ x ∈ l.us, x.name.size ≤ 9223372036854775807
  ms : ∀ x ∈ l.ms, x.name.size ≤ 9223372036854775807
  xs : ∀ x ∈ l.xs, x.name.size ≤ 9223372036854775807
def CL.n (l : CL) : Nat := l.ps.length + l.rs.length + l.us.length + l.ms.length + l.xs.length
theorem getD_in {α : Type} (l : List α) (i : Nat) (d : α) (h : i < l.length) : l.getD i d ∈ l := by simp [List.getD, h]
theorem en66 : Gx.Enters Try.prog 66 := Gx.Enters.mk' (by kernel_rfl)
theorem en68 : Gx.Enters Try.prog 68 := Gx.Enters.mk' (by kernel_rfl)
theorem en70 : Gx.Enters Try.prog 70 := Gx.Enters.mk' (by kernel_rfl)
theorem en72 : Gx.Enters Try.prog 72 := Gx.Enters.mk' (by kernel_rfl)
theorem en74 : Gx.Enters Try.prog 74 := Gx.Enters.mk' (by kernel_rfl)
theorem en64 : Gx.Enters Try.prog 64 := Gx.Enters.mk' (by kernel_rfl)
theorem z159 : (Try.prog.info? 159).bind (·.zero) = some (eConfFaults.val eConfFaults.zero) := by kernel_rfl
theorem en65 : Gx.Enters Try.prog 65 := Gx.Enters.mk' (by kernel_rfl)
theorem en67 : Gx.Enters Try.prog 67 := Gx.Enters.mk' (by kernel_rfl)
theorem en69 : Gx.Enters Try.prog 69 := Gx.Enters.mk' (by kernel_rfl)
theorem en71 : Gx.Enters Try.prog 71 := Gx.Enters.mk' (by kernel_rfl)
theorem en73 : Gx.Enters Try.prog 73 := Gx.Enters.mk' (by kernel_rfl)
theorem conf_check (c : SConf) (l : CL) (w : World) (hc : ConfAt w c l) (hn : l.Names) (hz : l.n ≤ 4611686018427387904) : Calls Try.prog 38 #[eConf.val c] w (RetO w eFault (checkF l c.default) 171) := by
  unfold CL.n at hz
  refine en0 69 Try.func38 ?_
  refine sg (cons (box (E := eConf) (.t rfl) (fun b1 => ?_)))
  refine co (Ev.assign (.c (v := (Go.Value.slice none 0 0)) rfl)) ?_
  refine nP (sg (co (Ev.ldv ty28 (.t rfl) (Lens.id _)) ?_))
  refine cons (calln (X := KB) (fun _ => True) (fun x => eConfKnown.val x.k) (fun x => x.R l) en64 (.cons (.t rfl) .nil) (fun w I => of_ok _ l w (hc.keep0 I.keeps)) (fun kb _ => ?_))
  refine cons (alloc z155 (fun b2 => ?_))
  refine cons (stv ty155 (Lens.id _) (.t rfl) (.t rfl) ?_)
  refine nP (sg (co (Ev.buildS (fs := _) (places := [(0, 1), (1, 1)]) z159 rfl Try.underlying159 (by kernel_rfl) .nil Fills.nil) ?_))
  refine cons (box (E := eConfFaults) (.t rfl) (fun b3 => ?_))
  refine asn rfl (nP (sg (takeNil eFault 171 ?_)))
  refine sepIn (r := Var b3 eConfFaults ⟨nilSl, 0⟩ 159) (s := OwnS nilSl.v eFault [] 171) (Rem.tail Rem.head) Rem.head ?_
  refine mv rfl (co (fA 0 (.t rfl)) ?_)
  refine co (Ev.ldv ty22 (.t rfl) SConf.l_ports) ?_
  refine co (Ev.makeFunc (f := 66) (.cons (.t rfl) .nil)) ?_
  refine cons (callr (X := OV) (r := FR b3 nilSl [] 0) (r' := fun o2 => FR b3 o2 (([] ++ listG (fun j0 : Nat => portE l.ps (l.ps.getD j0 iE.zero) j0) 0 l.ps.length 256)) (0 + (l.ps.length : Int))) (fun _ => True) (fun _ => .tuple #[]) (fun _ => Upd.head) List.mem_cons_self en65 (.cons (.t rfl) (.cons (.t rfl) (.cons (.c (v := I 256) rfl) (.cons (.t rfl) .nil)))) (fun w I => list_3 66 [] [.pointer (some ⟨b1, 0, none⟩)] (portE l.ps) (fun _ i => 0 ≤ i ∧ i < l.ps.length) b3 nilSl [] 0 _ l.ps 256 w en66 (at_mem List.mem_cons_self w I) (fun w1 k1 => hc.ps.keep0 (I.but Rem.head k1).keeps) (fun p i w1 h1 k1 => port1_ok c l.ps b1 p i w1 (by have I1 := I.but Rem.head k1; exact ptsVar (by repeat first | exact mH | apply mT | apply mA) (Lens.id _) w1 I1) (hc.ps.keep0 (I.but Rem.head k1).keeps) h1) (fun i hi => by constructor <;> omega) (by constructor <;> omega) (by simp only [List.length_append, List.length_nil]; omega)) (fun o1 _ => ?_))
  refine nP (sg (mv rfl (co (fA 1 (.t rfl)) ?_)))
  refine co (Ev.ldv ty23 (.t rfl) SConf.l_routes) ?_
  refine co (Ev.ldv ty155 (.t rfl) (Lens.id _)) ?_
  refine co (Ev.makeBound (f := 68) (.cons (.t rfl) .nil) .nil) ?_
  refine cons (callr (X := OV) (r := FR b3 o1 ([] ++ listG (fun j0 : Nat => portE l.ps (l.ps.getD j0 iE.zero) j0) 0 l.ps.length 256) (0 + (l.ps.length : Int))) (r' := fun o2 => FR b3 o2 ((([] ++ listG (fun j0 : Nat => portE l.ps (l.ps.getD j0 iE.zero) j0) 0 l.ps.length 256) ++ listG (fun j0 : Nat => routeE l (l.rs.getD j0 eRoute.zero) j0) (0 + (l.ps.length : Int)) l.rs.length 1024)) ((0 + (l.ps.length : Int)) + (l.rs.length : Int))) (fun _ => True) (fun _ => .tuple #[]) (fun _ => Upd.head) List.mem_cons_self en67 (.cons (.t rfl) (.cons (.t rfl) (.cons (.c (v := I 1024) rfl) (.cons (.t rfl) .nil)))) (fun w I => list_60 68 [eConfKnown.val kb.k] [] (routeE l) (fun _ _ => True) b3 o1 ([] ++ listG (fun j0 : Nat => portE l.ps (l.ps.getD j0 iE.zero) j0) 0 l.ps.length 256) (0 + (l.ps.length : Int)) _ l.rs 1024 w en68 (at_mem List.mem_cons_self w I) (fun w1 k1 => hc.rs.keep0 (I.but Rem.head k1).keeps) (fun x i w1 h1 k1 => route_ok kb l x i w1 (knownAt_own (fun r hr => by repeat first | exact List.mem_append_left _ hr | apply List.Mem.tail) w1 (I.but Rem.head k1))) (fun i hi => trivial) (by constructor <;> omega) (by have := listG_len (fun j0 : Nat => portE l.ps (l.ps.getD j0 iE.zero) j0) 0 l.ps.length 256; simp only [List.length_append, List.length_nil]; omega)) (fun o2 _ => ?_))
  refine nP (sg (mv rfl (co (fA 2 (.t rfl)) ?_)))
  refine co (Ev.ldv ty24 (.t rfl) SConf.l_rules) ?_
  refine co (Ev.ldv ty155 (.t rfl) (Lens.id _)) ?_
  refine co (Ev.makeBound (f := 70) (.cons (.t rfl) .nil) .nil) ?_
  refine cons (callr (X := OV) (r := FR b3 o2 (([] ++ listG (fun j0 : Nat => portE l.ps (l.ps.getD j0 iE.zero) j0) 0 l.ps.length 256) ++ listG (fun j0 : Nat => routeE l (l.rs.getD j0 eRoute.zero) j0) (0 + (l.ps.length : Int)) l.rs.length 1024) ((0 + (l.ps.length : Int)) + (l.rs.length : Int))) (r' := fun o2 => FR b3 o2 (((([] ++ listG (fun j0 : Nat => portE l.ps (l.ps.getD j0 iE.zero) j0) 0 l.ps.length 256) ++ listG (fun j0 : Nat => routeE l (l.rs.getD j0 eRoute.zero) j0) (0 + (l.ps.length : Int)) l.rs.length 1024) ++ listG (fun j0 : Nat => ruleE l (l.us.getD j0 eRule.zero) j0) ((0 + (l.ps.length : Int)) + (l.rs.length : Int)) l.us.length 256)) (((0 + (l.ps.length : Int)) + (l.rs.length : Int)) + (l.us.length : Int))) (fun _ => True) (fun _ => .tuple #[]) (fun _ => Upd.head) List.mem_cons_self en69 (.cons (.t rfl) (.cons (.t rfl) (.cons (.c (v := I 256) rfl) (.cons (.t rfl) .nil)))) (fun w I => list_57 70 [eConfKnown.val kb.k] [] (ruleE l) (fun x _ => x ∈ l.us) b3 o2 (([] ++ listG (fun j0 : Nat => portE l.ps (l.ps.getD j0 iE.zero) j0) 0 l.ps.length 256) ++ listG (fun j0 : Nat => routeE l (l.rs.getD j0 eRoute.zero) j0) (0 + (l.ps.length : Int)) l.rs.length 1024) ((0 + (l.ps.length : Int)) + (l.rs.length : Int)) _ l.us 256 w en70 (at_mem List.mem_cons_self w I) (fun w1 k1 => hc.us.keep0 (I.but Rem.head k1).keeps) (fun x i w1 h1 k1 => rule_ok kb l x i w1 (knownAt_own (fun r hr => by repeat first | exact List.mem_append_left _ hr | apply List.Mem.tail) w1 (I.but Rem.head k1)) (hn.us x h1)) (fun i hi => getD_in _ _ _ hi) (by constructor <;> omega) (by have := listG_len (fun j0 : Nat => portE l.ps (l.ps.getD j0 iE.zero) j0) 0 l.ps.length 256; have := listG_len (fun j0 : Nat => routeE l (l.rs.getD j0 eRoute.zero) j0) (0 + (l.ps.length : Int)) l.rs.length 1024; simp only [List.length_append, List.length_nil]; omega)) (fun o3 _ => ?_))
  refine nP (sg (mv rfl (co (fA 3 (.t rfl)) ?_)))
  refine co (Ev.ldv ty25 (.t rfl) SConf.l_meters) ?_
  refine co (Ev.ldv ty155 (.t rfl) (Lens.id _)) ?_
  refine co (Ev.makeBound (f := 72) (.cons (.t rfl) .nil) .nil) ?_
  refine cons (callr (X := OV) (r := FR b3 o3 ((([] ++ listG (fun j0 : Nat => portE l.ps (l.ps.getD j0 iE.zero) j0) 0 l.ps.length 256) ++ listG (fun j0 : Nat => routeE l (l.rs.getD j0 eRoute.zero) j0) (0 + (l.ps.length : Int)) l.rs.length 1024) ++ listG (fun j0 : Nat => ruleE l (l.us.getD j0 eRule.zero) j0) ((0 + (l.ps.length : Int)) + (l.rs.length : Int)) l.us.length 256) (((0 + (l.ps.length : Int)) + (l.rs.length : Int)) + (l.us.length : Int))) (r' := fun o2 => FR b3 o2 ((((([] ++ listG (fun j0 : Nat => portE l.ps (l.ps.getD j0 iE.zero) j0) 0 l.ps.length 256) ++ listG (fun j0 : Nat => routeE l (l.rs.getD j0 eRoute.zero) j0) (0 + (l.ps.length : Int)) l.rs.length 1024) ++ listG (fun j0 : Nat => ruleE l (l.us.getD j0 eRule.zero) j0) ((0 + (l.ps.length : Int)) + (l.rs.length : Int)) l.us.length 256) ++ listG (fun j0 : Nat => meterE l (l.ms.getD j0 eMeterConf.zero) j0) (((0 + (l.ps.length : Int)) + (l.rs.length : Int)) + (l.us.length : Int)) l.ms.length 64)) ((((0 + (l.ps.length : Int)) + (l.rs.length : Int)) + (l.us.length : Int)) + (l.ms.length : Int))) (fun _ => True) (fun _ => .tuple #[]) (fun _ => Upd.head) List.mem_cons_self en71 (.cons (.t rfl) (.cons (.t rfl) (.cons (.c (v := I 64) rfl) (.cons (.t rfl) .nil)))) (fun w I => list_95 72 [eConfKnown.val kb.k] [] (meterE l) (fun x _ => x ∈ l.ms) b3 o3 ((([] ++ listG (fun j0 : Nat => portE l.ps (l.ps.getD j0 iE.zero) j0) 0 l.ps.length 256) ++ listG (fun j0 : Nat => routeE l (l.rs.getD j0 eRoute.zero) j0) (0 + (l.ps.length : Int)) l.rs.length 1024) ++ listG (fun j0 : Nat => ruleE l (l.us.getD j0 eRule.zero) j0) ((0 + (l.ps.length : Int)) + (l.rs.length : Int)) l.us.length 256) (((0 + (l.ps.length : Int)) + (l.rs.length : Int)) + (l.us.length : Int)) _ l.ms 64 w en72 (at_mem List.mem_cons_self w I) (fun w1 k1 => hc.ms.keep0 (I.but Rem.head k1).keeps) (fun x i w1 h1 k1 => meter_ok kb l x i w1 (knownAt_own (fun r hr => by repeat first | exact List.mem_append_left _ hr | apply List.Mem.tail) w1 (I.but Rem.head k1)) (hn.ms x h1)) (fun i hi => getD_in _ _ _ hi) (by constructor <;> omega) (by have := listG_len (fun j0 : Nat => portE l.ps (l.ps.getD j0 iE.zero) j0) 0 l.ps.length 256; have := listG_len (fun j0 : Nat => routeE l (l.rs.getD j0 eRoute.zero) j0) (0 + (l.ps.length : Int)) l.rs.length 1024; have := listG_len (fun j0 : Nat => ruleE l (l.us.getD j0 eRule.zero) j0) ((0 + (l.ps.length : Int)) + (l.rs.length : Int)) l.us.length 256; simp only [List.length_append, List.length_nil]; omega)) (fun o4 _ => ?_))
  refine nP (sg (mv rfl (co (fA 4 (.t rfl)) ?_)))
  refine co (Ev.ldv ty26 (.t rfl) SConf.l_mirrors) ?_
  refine co (Ev.ldv ty155 (.t rfl) (Lens.id _)) ?_
  refine co (Ev.makeBound (f := 74) (.cons (.t rfl) .nil) .nil) ?_
  refine cons (callr (X := OV) (r := FR b3 o4 (((([] ++ listG (fun j0 : Nat => portE l.ps (l.ps.getD j0 iE.zero) j0) 0 l.ps.length 256) ++ listG (fun j0 : Nat => routeE l (l.rs.getD j0 eRoute.zero) j0) (0 + (l.ps.length : Int)) l.rs.length 1024) ++ listG (fun j0 : Nat => ruleE l (l.us.getD j0 eRule.zero) j0) ((0 + (l.ps.length : Int)) + (l.rs.length : Int)) l.us.length 256) ++ listG (fun j0 : Nat => meterE l (l.ms.getD j0 eMeterConf.zero) j0) (((0 + (l.ps.length : Int)) + (l.rs.length : Int)) + (l.us.length : Int)) l.ms.length 64) ((((0 + (l.ps.length : Int)) + (l.rs.length : Int)) + (l.us.length : Int)) + (l.ms.length : Int))) (r' := fun o2 => FR b3 o2 (((((([] ++ listG (fun j0 : Nat => portE l.ps (l.ps.getD j0 iE.zero) j0) 0 l.ps.length 256) ++ listG (fun j0 : Nat => routeE l (l.rs.getD j0 eRoute.zero) j0) (0 + (l.ps.length : Int)) l.rs.length 1024) ++ listG (fun j0 : Nat => ruleE l (l.us.getD j0 eRule.zero) j0) ((0 + (l.ps.length : Int)) + (l.rs.length : Int)) l.us.length 256) ++ listG (fun j0 : Nat => meterE l (l.ms.getD j0 eMeterConf.zero) j0) (((0 + (l.ps.length : Int)) + (l.rs.length : Int)) + (l.us.length : Int)) l.ms.length 64) ++ listG (fun j0 : Nat => mirrorE l (l.xs.getD j0 eMirrorConf.zero) j0) ((((0 + (l.ps.length : Int)) + (l.rs.length : Int)) + (l.us.length : Int)) + (l.ms.length : Int)) l.xs.length 16)) (((((0 + (l.ps.length : Int)) + (l.rs.length : Int)) + (l.us.length : Int)) + (l.ms.length : Int)) + (l.xs.length : Int))) (fun _ => True) (fun _ => .tuple #[]) (fun _ => Upd.head) List.mem_cons_self en73 (.cons (.t rfl) (.cons (.t rfl) (.cons (.c (v := I 16) rfl) (.cons (.t rfl) .nil)))) (fun w I => list_97 74 [eConfKnown.val kb.k] [] (mirrorE l) (fun x _ => x ∈ l.xs) b3 o4 (((([] ++ listG (fun j0 : Nat => portE l.ps (l.ps.getD j0 iE.zero) j0) 0 l.ps.length 256) ++ listG (fun j0 : Nat => routeE l (l.rs.getD j0 eRoute.zero) j0) (0 + (l.ps.length : Int)) l.rs.length 1024) ++ listG (fun j0 : Nat => ruleE l (l.us.getD j0 eRule.zero) j0) ((0 + (l.ps.length : Int)) + (l.rs.length : Int)) l.us.length 256) ++ listG (fun j0 : Nat => meterE l (l.ms.getD j0 eMeterConf.zero) j0) (((0 + (l.ps.length : Int)) + (l.rs.length : Int)) + (l.us.length : Int)) l.ms.length 64) ((((0 + (l.ps.length : Int)) + (l.rs.length : Int)) + (l.us.length : Int)) + (l.ms.length : Int)) _ l.xs 16 w en74 (at_mem List.mem_cons_self w I) (fun w1 k1 => hc.xs.keep0 (I.but Rem.head k1).keeps) (fun x i w1 h1 k1 => mirror_ok kb l x i w1 (knownAt_own (fun r hr => by repeat first | exact List.mem_append_left _ hr | apply List.Mem.tail) w1 (I.but Rem.head k1)) (hn.xs x h1)) (fun i hi => getD_in _ _ _ hi) (by constructor <;> omega) (by have := listG_len (fun j0 : Nat => portE l.ps (l.ps.getD j0 iE.zero) j0) 0 l.ps.length 256; have := listG_len (fun j0 : Nat => routeE l (l.rs.getD j0 eRoute.zero) j0) (0 + (l.ps.length : Int)) l.rs.length 1024; have := listG_len (fun j0 : Nat => ruleE l (l.us.getD j0 eRule.zero) j0) ((0 + (l.ps.length : Int)) + (l.rs.length : Int)) l.us.length 256; have := listG_len (fun j0 : Nat => meterE l (l.ms.getD j0 eMeterConf.zero) j0) (((0 + (l.ps.length : Int)) + (l.rs.length : Int)) + (l.us.length : Int)) l.ms.length 64; simp only [List.length_append, List.length_nil]; omega)) (fun o5 _ => ?_))
  refine nP (cut (X := OV) (fun x : OV => True) (fun x : OV => [dz, (4, true, .pointer (some ⟨b3, 0, none⟩))]) (fun x : OV => [Var b3 eConfFaults ⟨x, (((((0 + (l.ps.length : Int)) + (l.rs.length : Int)) + (l.us.length : Int)) + (l.ms.length : Int)) + (l.xs.length : Int))⟩ 159, OwnS x.v eFault (checkF l c.default) 171]) ?_ (fun x hx => ?_))
  · refine sg (sepOut Rem.head ?_)
    refine co (fA 5 (.t rfl)) ?_
    refine co (Ev.ldv ty3 (.t rfl) SConf.l_default) ?_
    refine co (Ev.neq_i (.t rfl) (.c (v := I 1) rfl)) ?_
    refine mv rfl (cg rfl rfl (fA 5 (.t rfl)) ?_)
    refine cg rfl rfl (Ev.ldv ty3 (.g rfl id) SConf.l_default) ?_
    refine cg rfl rfl (Ev.neq_i (.g rfl id) (.c (v := I 2) rfl)) ?_
    refine co (Ev.pkA (.t rfl) rfl) ?_
    refine mv rfl (cg rfl rfl (fA 5 (.t rfl)) ?_)
    refine cg rfl rfl (Ev.ldv ty3 (.g rfl id) SConf.l_default) ?_
    refine cg rfl rfl (Ev.neq_i (.g rfl id) (.c (v := I 4) rfl)) ?_
    refine co (Ev.pkA (.t rfl) rfl) ?_
    refine nP ?_
    first | refine condD rfl (fun h0 => ?_) (fun h0 => ?_) | refine cond rfl (fun h0 => ?_) (fun h0 => ?_)
    · have hdb : defBad c.default = true := (defBad_eq _).trans h0
      refine draw [] (by kernel_rfl) ?_
      refine tk 0 rfl (Ev.move (.t rfl)) ?_
      refine tk 1 rfl (Ev.move (.t rfl)) ?_
      refine tk 2 rfl (Ev.nilCheck (.t rfl)) ?_
      refine tk 3 rfl (fA 0 (.t rfl)) ?_
      refine tk 5 rfl (Ev.move (.t rfl)) ?_
      refine tk 6 rfl (Ev.nilCheck (.t rfl)) ?_
      refine tk 7 rfl (fA 1 (.t rfl)) ?_
      refine all [4, 8] (by kernel_rfl) (by decide) (.cons rfl ?_ (.cons rfl ?_ .nil))
      · refine (opv (Ev.ldv ty120 (.t rfl) SConfFaults.l_l) ?_)
        refine hdn (al1 8 rfl ((opv (Ev.ldv ty3 (.t rfl) SConfFaults.l_at_) ?_)))
        refine hdn (tk 9 rfl (Ev.buildS (fs := _) (places := [(0, 1), (1, 1)]) z171 rfl Try.underlying171 (by kernel_rfl) (.cons (.c (v := I 2) rfl) (.cons (.t rfl) .nil)) (Fills.cons SFault.l_code rfl (Fills.cons SFault.l_at_ rfl Fills.nil))) ?_)
        refine al1 10 rfl ((buildSlice (E := eFault) Try.underlying120 ty171 z171 (.cons (.t rfl) .nil) rfl rfl (fun v4 => ?_)))
        refine hdn (al1 11 rfl ((app (E := eFault) Try.underlying120 ty171 zb171 zs171 (.t rfl) (.t rfl) (fun v5 => ?_) (hby := ⟨by (show _ ≤ 9223372036854775807); have := thingsF_len l; simp only [List.length_cons, List.length_nil]; unfold thingsF at this; omega, by have := thingsF_len l; simp only [List.length_cons, List.length_nil]; unfold thingsF at this; omega⟩))))
        refine hdn (tk 12 rfl (Ev.nilCheck (.t rfl)) ?_)
        refine tk 13 rfl (fA 0 (.t rfl)) ?_
        refine al1 14 rfl ((stv ty120 SConfFaults.l_l (.t rfl) (.t rfl) ?_))
        refine hdn (ovr (pN (mt (X := OV) (_) trivial (hL := (by unfold checkF; (first | rw [if_pos hdb] | rw [if_neg hdb, List.append_nil]); repeat first | exact sR | exact sN | apply sC | apply sS | apply sA)))))
      · refine (opv (Ev.ldv ty3 (.t rfl) SConfFaults.l_at_) ?_)
        refine hdn (tk 9 rfl (Ev.buildS (fs := _) (places := [(0, 1), (1, 1)]) z171 rfl Try.underlying171 (by kernel_rfl) (.cons (.c (v := I 2) rfl) (.cons (.t rfl) .nil)) (Fills.cons SFault.l_code rfl (Fills.cons SFault.l_at_ rfl Fills.nil))) ?_)
        refine all [4, 10] (by kernel_rfl) (by decide) (.cons rfl ?_ (.cons rfl ?_ .nil))
        · refine (opv (Ev.ldv ty120 (.t rfl) SConfFaults.l_l) ?_)
          refine hdn (al1 10 rfl ((buildSlice (E := eFault) Try.underlying120 ty171 z171 (.cons (.t rfl) .nil) rfl rfl (fun v6 => ?_))))
          refine hdn (al1 11 rfl ((app (E := eFault) Try.underlying120 ty171 zb171 zs171 (.t rfl) (.t rfl) (fun v7 => ?_) (hby := ⟨by (show _ ≤ 9223372036854775807); have := thingsF_len l; simp only [List.length_cons, List.length_nil]; unfold thingsF at this; omega, by have := thingsF_len l; simp only [List.length_cons, List.length_nil]; unfold thingsF at this; omega⟩))))
          refine hdn (tk 12 rfl (Ev.nilCheck (.t rfl)) ?_)
          refine tk 13 rfl (fA 0 (.t rfl)) ?_
          refine al1 14 rfl ((stv ty120 SConfFaults.l_l (.t rfl) (.t rfl) ?_))
          refine hdn (ovr (pN (mt (X := OV) (_) trivial (hL := (by unfold checkF; (first | rw [if_pos hdb] | rw [if_neg hdb, List.append_nil]); repeat first | exact sR | exact sN | apply sC | apply sS | apply sA)))))
        · refine (buildSlice (E := eFault) Try.underlying120 ty171 z171 (.cons (.t rfl) .nil) rfl rfl (fun v8 => ?_))
          refine hdn (al1 4 rfl ((opv (Ev.ldv ty120 (.t rfl) SConfFaults.l_l) ?_)))
          refine hdn (al1 11 rfl ((app (E := eFault) Try.underlying120 ty171 zb171 zs171 (.t rfl) (.t rfl) (fun v9 => ?_) (hby := ⟨by (show _ ≤ 9223372036854775807); have := thingsF_len l; simp only [List.length_cons, List.length_nil]; unfold thingsF at this; omega, by have := thingsF_len l; simp only [List.length_cons, List.length_nil]; unfold thingsF at this; omega⟩))))
          refine hdn (tk 12 rfl (Ev.nilCheck (.t rfl)) ?_)
          refine tk 13 rfl (fA 0 (.t rfl)) ?_
          refine al1 14 rfl ((stv ty120 SConfFaults.l_l (.t rfl) (.t rfl) ?_))
          refine hdn (ovr (pN (mt (X := OV) (_) trivial (hL := (by unfold checkF; (first | rw [if_pos hdb] | rw [if_neg hdb, List.append_nil]); repeat first | exact sR | exact sN | apply sC | apply sS | apply sA)))))
    · have hdb : ¬ defBad c.default = true := by rw [show defBad c.default = false from (defBad_eq _).trans h0]; exact Bool.false_ne_true
      refine skip (pN (mt (X := OV) (_) trivial (hL := (by unfold checkF; (first | rw [if_pos hdb] | rw [if_neg hdb, List.append_nil]); repeat first | exact sR | exact sN | apply sC | apply sS | apply sA))))
  obtain ⟨q, rfl⟩ : ∃ y, y = x := ⟨x, rfl⟩
  show Sat _ _ [dz, (4, true, .pointer (some ⟨b3, 0, none⟩))] [Var b3 eConfFaults ⟨q, (((((0 + (l.ps.length : Int)) + (l.rs.length : Int)) + (l.us.length : Int)) + (l.ms.length : Int)) + (l.xs.length : Int))⟩ 159, OwnS q.v eFault (checkF l c.default) 171]
  refine sg (mv rfl (co (Ev.nilCheck (.t rfl)) ?_))
  refine co (fA 0 (.t rfl)) ?_
  refine co (Ev.ldv ty120 (.t rfl) SConfFaults.l_l) ?_
  refine asn rfl (nP (ret (done rfl (.tmp rfl .nil) (retOE (by repeat first | exact mH | apply mT | apply mA) ?_))))
  rfl
def mayB (l : CL) (d : Int) : Bool := decide (checkF l d = [])
theorem en38 : Gx.Enters Try.prog 38 := Gx.Enters.mk' (by kernel_rfl)
theorem may_ok (c : SConf) (l : CL) (w : World) (hc : ConfAt w c l) (hn : l.Names) (hz : l.n ≤ 4611686018427387904) : Calls Try.prog 22 #[eConf.val c] w (RetV w (.bool (mayB l c.default))) := by
  refine en0 7 Try.func22 ?_
  refine sg (cons (box (E := eConf) (.t rfl) (fun b1 => ?_)))
  refine co (Ev.assign (.c (v := .bool false) rfl)) ?_
  refine nP (sg (co (Ev.ldx c ty28 (.t rfl) (Lens.id _)) ?_))
  refine cons (callo en38 (.cons (.t rfl) .nil) (fun w I => conf_check c l w (hc.keep0 I.keeps) hn hz) (fun v2 => ?_))
  refine co (Ev.len Try.underlying120 (.t rfl) (by first | exact isSl_own (by repeat first | exact mH | apply mT | apply mA) | exact fun w I => IsSl.keep0 (by assumption) I.keeps)) ?_
  refine co (Ev.eql_i (.t rfl) (.c (v := I 0) rfl)) ?_
  refine asn rfl (nP (ret (done rfl (.tmp rfl .nil) (retE ?_))))
  unfold mayB
  refine congrArg Value.bool ?_
  rw [Bool.eq_iff_iff, decide_eq_true_iff, decide_eq_true_iff, ← List.length_eq_zero_iff]
  omega
theorem listG_nil {e : Nat → Int} {d : Int} {n most : Nat} (h : listG e d n most = []) : n ≤ most := by
  unfold listG at h
  have h2 := (List.append_eq_nil_iff.1 h).2
  by_cases hm : most < n
  · rw [if_pos hm] at h2; cases h2
  · omega
theorem may_lens {l : CL} {d : Int} (h : mayB l d = true) : l.ps.length ≤ 256 ∧ l.rs.length ≤ 1024 ∧ l.us.length ≤ 256 ∧ l.ms.length ≤ 64 ∧ l.xs.length ≤ 16 := by
  unfold mayB checkF thingsF at h
  have h := (List.append_eq_nil_iff.1 (of_decide_eq_true h)).1
  have e5 := List.append_eq_nil_iff.1 h
  have e4 := List.append_eq_nil_iff.1 e5.1
  have e3 := List.append_eq_nil_iff.1 e4.1
  have e2 := List.append_eq_nil_iff.1 e3.1
  have e1 := List.append_eq_nil_iff.1 e2.1
  exact ⟨listG_nil e1.2, listG_nil e2.2, listG_nil e3.2, listG_nil e4.2, listG_nil e5.2⟩
theorem faultsUp_nil {e : Nat → Int} {d : Int} : ∀ {n : Nat}, faultsUp e d n = [] → ∀ i, i < n → e i = 0
  | 0, _, i, hi => absurd hi (Nat.not_lt_zero _)
  | n + 1, h, i, hi => by
    unfold faultsUp at h
    obtain ⟨h1, h2⟩ := List.append_eq_nil_iff.1 h
    by_cases hin : i < n
    · exact faultsUp_nil h1 i hin
    · obtain rfl : i = n := by omega
      by_cases he : e i = 0
      · exact he
      · rw [if_neg he] at h2
        cases h2
theorem listG_ok {e : Nat → Int} {d : Int} {n most : Nat} (h : listG e d n most = []) : ∀ i, i < n → e i = 0 := by
  have hm := listG_nil h
  unfold listG at h
  rw [Nat.min_eq_left hm] at h
  exact faultsUp_nil (List.append_eq_nil_iff.1 h).1
structure CL.Good (l : CL) (d : Int) : Prop where
  ps : ∀ i, i < l.ps.length → portE l.ps (l.ps.getD i iE.zero) i = 0
  rs : ∀ i, i < l.rs.length → routeE l (l.rs.getD i eRoute.zero) i = 0
  us : ∀ i, i < l.us.length → ruleE l (l.us.getD i eRule.zero) i = 0
  ms : ∀ i, i < l.ms.length → meterE l (l.ms.getD i eMeterConf.zero) i = 0
  xs : ∀ i, i < l.xs.length → mirrorE l (l.xs.getD i eMirrorConf.zero) i = 0
  d : defBad d = false
theorem may_good {l : CL} {d : Int} (h : mayB l d = true) : l.Good d := by
  unfold mayB checkF thingsF at h
  have h0 := List.append_eq_nil_iff.1 (of_decide_eq_true h)
  have e5 := List.append_eq_nil_iff.1 h0.1
  have e4 := List.append_eq_nil_iff.1 e5.1
  have e3 := List.append_eq_nil_iff.1 e4.1
  have e2 := List.append_eq_nil_iff.1 e3.1
  have e1 := List.append_eq_nil_iff.1 e2.1
  refine ⟨listG_ok e1.2, listG_ok e2.2, listG_ok e3.2, listG_ok e4.2, listG_ok e5.2, ?_⟩
  cases hd : defBad d with
  | false => rfl
  | true => rw [hd, if_pos rfl] at h0; exact absurd h0.2 (by simp)
theorem find_first {α κ : Type} {q : κ → κ → Bool} (hi : ∀ x y, q x y = true ↔ x = y) (f : α → κ) (l : List α) (k : κ) : ∀ n, n ≤ l.length → findV q k (firstN q f l n) = ((l.take n).findIdx? (fun x => q (f x) k)).map (fun i : Nat => (i : Int))
  | 0, _ => by simp [firstN, findV, findL]
  | n + 1, h => by
    have hlt : n < l.length := by omega
    have ih := find_first hi f l k n (by omega)
    have ihx := find_first hi f l (f l[n]) n (by omega)
    have e : l[n]? = some l[n] := List.getElem?_eq_getElem hlt
    have hlen : (l.take n).length = n := by simp; omega
    rw [firstN, e, List.take_succ_eq_append_getElem hlt, List.findIdx?_append]
    simp only
    cases hs : (findV q (f l[n]) (firstN q f l n)).isSome with
    | true =>
      rw [if_pos rfl, ih]
      cases hk : (l.take n).findIdx? (fun x => q (f x) k) with
      | some i => simp
      | none =>
        have hq : q (f l[n]) k = false := by
          rw [Bool.eq_false_iff]
          intro hq
          have e2 := (hi _ _).1 hq
          subst e2
          rw [ihx, hk] at hs
          cases hs
        simp [List.findIdx?_cons, hq]
    | false =>
      rw [if_neg Bool.false_ne_true, findV_put hi]
      have hn : (l.take n).findIdx? (fun x => q (f x) (f l[n])) = none := by
        rw [ihx] at hs
        cases h2 : (l.take n).findIdx? (fun x => q (f x) (f l[n])) with
        | none => rfl
        | some i => rw [h2] at hs; cases hs
      by_cases hq : q k (f l[n]) = true
      · have e2 := (hi _ _).1 hq
        subst e2
        rw [if_pos hq, hn]
        simp [List.findIdx?_cons, hq, hlen]
      · rw [if_neg hq, ih]
        have hq2 : q (f l[n]) k = false := by
          rw [Bool.eq_false_iff]
          intro h2
          exact hq ((hi _ _).2 ((hi _ _).1 h2).symm)
        cases hk : (l.take n).findIdx? (fun x => q (f x) k) <;> simp [List.findIdx?_cons, hq2]
theorem find_all {α κ : Type} {q : κ → κ → Bool} (hi : ∀ x y, q x y = true ↔ x = y) (f : α → κ) (l : List α) (k : κ) : findV q k (firstN q f l l.length) = (l.findIdx? (fun x => q (f x) k)).map (fun i : Nat => (i : Int)) := by
  rw [find_first hi f l k _ (Nat.le_refl _), List.take_length]
theorem find_at {α κ : Type} {q : κ → κ → Bool} (hi : ∀ x y, q x y = true ↔ x = y) (f : α → κ) (l : List α) (z : α) (i : Nat) (h : i < l.length) : (findV q (f (l.getD i z)) (firstN q f l l.length)).getD 0 = idxF (fun x => q (f x) (f (l.getD i z))) l := by
  rw [find_all hi]
  unfold idxF
  cases hk : l.findIdx? (fun x => q (f x) (f (l.getD i z))) with
  | some j => rfl
  | none =>
    have := List.findIdx?_eq_none_iff.1 hk (l.getD i z) (getD_in _ _ _ h)
    rw [(hi _ _).2 rfl] at this
    cases this
theorem idx_split {α : Type} {p : α → Bool} : ∀ {l : List α}, 0 ≤ idxF p l → ∃ A y B, l = A ++ y :: B ∧ p y = true ∧ (∀ a ∈ A, p a = false) ∧ idxF p l = A.length := by
  intro l h
  unfold idxF at h
  cases e : l.findIdx? p with
  | none => rw [e] at h; simp only at h; omega
  | some i =>
    obtain ⟨h1, h2, h3⟩ := List.findIdx?_eq_some_iff_getElem.1 e
    refine ⟨l.take i, l[i], l.drop (i + 1), ?_, h2, fun a ha => ?_, ?_⟩
    · rw [← List.drop_eq_getElem_cons h1, List.take_append_drop]
    · obtain ⟨j, hj, rfl⟩ := List.mem_iff_getElem.1 ha
      have hj2 : j < i := by simp at hj; omega
      have := h3 j hj2
      simpa using this
    · unfold idxF
      rw [e, List.length_take]
      simp only
      omega
abbrev KeyE {κ : Type} (e : κ → κ → Bool) : Prop := ∀ a b, e a b = true ↔ a = b
theorem none_mem {α κ : Type} {q : κ → κ → Bool} (hi : KeyE q) (f : α → κ) (l : List α) (k : κ) : (findV q k (firstN q f l l.length)).isNone = true ↔ k ∉ l.map f := by
  rw [find_all hi, Option.isNone_iff_eq_none, Option.map_eq_none_iff, List.findIdx?_eq_none_iff]
  constructor
  · intro h hm
    obtain ⟨x, hx, rfl⟩ := List.mem_map.1 hm
    have := h x hx
    rw [(hi _ _).2 rfl] at this
    cases this
  · intro h x hx
    rw [Bool.eq_false_iff]
    intro hq
    exact h (List.mem_map.2 ⟨x, hx, (hi _ _).1 hq⟩)
theorem idxF_le {α : Type} {p : α → Bool} {l : List α} {i : Nat} (h : i < l.length) (hp : p l[i] = true) : 0 ≤ idxF p l ∧ idxF p l ≤ i := by
  unfold idxF
  cases e : l.findIdx? p with
  | none =>
    have := List.findIdx?_eq_none_iff.1 e l[i] (List.getElem_mem h)
    rw [hp] at this
    cases this
  | some m =>
    obtain ⟨h1, h2, h3⟩ := List.findIdx?_eq_some_iff_getElem.1 e
    simp only
    rcases Nat.lt_or_ge i m with h4 | h4
    · exact absurd hp (h3 i h4)
    · omega
theorem nodup_inj {α κ : Type} {f : α → κ} {l : List α} (h : (l.map f).Nodup) {x y : α} (hx : x ∈ l) (hy : y ∈ l) (e : f x = f y) : x = y := by
  obtain ⟨i, hi, rfl⟩ := List.mem_iff_getElem.1 hx
  obtain ⟨j, hj, rfl⟩ := List.mem_iff_getElem.1 hy
  have hp := List.pairwise_iff_getElem.1 h
  rcases Nat.lt_trichotomy i j with h1 | h1 | h1
  · exact absurd (by rw [List.getElem_map, List.getElem_map]; exact e) (hp i j (by simpa using hi) (by simpa using hj) h1)
  · subst h1; rfl
  · exact absurd (by rw [List.getElem_map, List.getElem_map]; exact e.symm) (hp j i (by simpa using hj) (by simpa using hi) h1)
theorem nodup_first {α κ : Type} {q : κ → κ → Bool} (hi : KeyE q) {f : α → κ} {l : List α} (z : α) (h : ∀ i, i < l.length → ¬ (findV q (f (l.getD i z)) (firstN q f l l.length)).getD 0 < (i : Int)) : (l.map f).Nodup := by
  refine List.pairwise_iff_getElem.2 fun i j h1 h2 hij e => ?_
  have h1' : i < l.length := by simpa using h1
  have h2' : j < l.length := by simpa using h2
  have hj := h j h2'
  rw [find_at hi f l z j h2'] at hj
  have e2 : l.getD j z = l[j] := by simp [List.getD, h2']
  rw [e2] at hj
  have := (idxF_le (p := fun x => q (f x) (f l[j])) h1' ((hi _ _).2 (by simpa using e))).2
  omega
theorem first_nodup {α κ : Type} {q : κ → κ → Bool} (hi : KeyE q) {f : α → κ} {l : List α} (z : α) (h : (l.map f).Nodup) (i : Nat) (hlt : i < l.length) : ¬ (findV q (f (l.getD i z)) (firstN q f l l.length)).getD 0 < (i : Int) := by
  rw [find_at hi f l z i hlt]
  have e2 : l.getD i z = l[i] := by simp [List.getD, hlt]
  rw [e2]
  obtain ⟨A, y, B, e3, e4, e5, e6⟩ := idx_split (idxF_le (p := fun x => q (f x) (f l[i])) hlt ((hi _ _).2 rfl)).1
  rw [e6]
  intro hl
  have hA : A.length < l.length := by rw [e3]; simp
  have hy : l[A.length] = y := by
    have : ∀ (k : List α) (hk : A.length < k.length), k = A ++ y :: B → k[A.length] = y := fun k hk e => by subst e; simp
    exact this l hA e3
  have hp := List.pairwise_iff_getElem.1 h A.length i (by simpa using hA) (by simpa using hlt) (by omega)
  apply hp
  simp only [List.getElem_map, hy]
  exact (hi _ _).1 e4
theorem routeE_z {l : CL} {r : SRoute} {i : Int} : routeE l r i = 0 ↔ checkP r.to_ = 0 ∧ portB l r.out = true ∧ ¬ (findV SPrefix.eqb r.to_ (routesM l)).getD 0 < i := by
  unfold routeE
  split
  · rename_i h; simp [h]
  · split
    · rename_i h; simp [h]
    · split
      · rename_i h; simp [h]
      · rename_i h1 h2 h3
        simp only [ne_eq, Decidable.not_not] at h1
        simp [h1, h3]
        simpa using h2
theorem meterE_z {l : CL} {r : SMeterConf} {i : Int} : meterE l r i = 0 ↔ nameB r.name = true ∧ ckB r.bucket = 0 ∧ ¬ (findV eqs r.name (metersM l)).getD 0 < i := by
  unfold meterE
  split
  · rename_i h; simp [h]
  · split
    · rename_i h1 h2
      constructor
      · intro h
        cases h
      · intro hh
        rcases h2 with h | h
        · exact absurd h hh.2.2
        · exact absurd hh.2.1 h
    · rename_i h1 h2
      simp only [not_or, ne_eq, Decidable.not_not] at h2
      exact ⟨fun _ => ⟨by simpa using h1, h2.2, h2.1⟩, fun _ => rfl⟩
theorem mirrorE_z {l : CL} {r : SMirrorConf} {i : Int} : mirrorE l r i = 0 ↔ nameB r.name = true ∧ portB l r.out = true ∧ roomB r.room = true ∧ ¬ (findV eqs r.name (mirrorsM l)).getD 0 < i := by
  unfold mirrorE
  split
  · rename_i h; simp [h]
  · split
    · rename_i h; simp [h]
    · split
      · rename_i h; simp [h]
      · split
        · rename_i h; simp [h]
        · rename_i h1 h2 h3 h4
          exact ⟨fun _ => ⟨by simpa using h1, by simpa using h3, by simpa using h4, h2⟩, fun _ => rfl⟩
theorem good_rs {l : CL} {d : Int} (h : l.Good d) : (l.rs.map (·.to_)).Nodup := nodup_first SPrefix.eqb_iff eRoute.zero fun i hi => (routeE_z.1 (h.rs i hi)).2.2
theorem good_ms {l : CL} {d : Int} (h : l.Good d) : (l.ms.map (·.name)).Nodup := nodup_first eqs_iff eMeterConf.zero fun i hi => (meterE_z.1 (h.ms i hi)).2.2
theorem good_xs {l : CL} {d : Int} (h : l.Good d) : (l.xs.map (·.name)).Nodup := nodup_first eqs_iff eMirrorConf.zero fun i hi => (mirrorE_z.1 (h.xs i hi)).2.2.2
theorem getD_of {α : Type} (l : List α) (z : α) {P : α → Nat → Prop} (h : ∀ i, i < l.length → P (l.getD i z) i) : ∀ x ∈ l, ∃ i, i < l.length ∧ P x i := fun x hx => by
  obtain ⟨i, hi, rfl⟩ := List.mem_iff_getElem.1 hx
  have := h i hi
  have e : l.getD i z = l[i] := by simp [List.getD, hi]
  rw [e] at this
  exact ⟨i, hi, this⟩
theorem inM_iff {α : Type} (f : α → ByteArray) (l : List α) (s : ByteArray) : inM (firstN eqs f l l.length) s = true ↔ s ∈ l.map f := by
  unfold inM
  have h := none_mem eqs_iff f l s
  cases hf : findV eqs s (firstN eqs f l l.length) with
  | none => rw [hf] at h; simpa using h
  | some v => rw [hf] at h; simpa using h
theorem inM_perm {α : Type} (f : α → ByteArray) {l k : List α} (h : l.Perm k) (s : ByteArray) : inM (firstN eqs f l l.length) s = inM (firstN eqs f k k.length) s := by
  rw [Bool.eq_iff_iff, inM_iff, inM_iff]
  exact (h.map f).mem_iff
theorem faultsUp_z {e : Nat → Int} {d : Int} : ∀ {n : Nat}, (∀ i, i < n → e i = 0) → faultsUp e d n = []
  | 0, _ => rfl
  | n + 1, h => by
    unfold faultsUp
    rw [faultsUp_z (fun i hi => h i (by omega)), if_pos (h n (by omega))]
    rfl
theorem listG_z {e : Nat → Int} {d : Int} {n most : Nat} (hn : n ≤ most) (h : ∀ i, i < n → e i = 0) : listG e d n most = [] := by
  unfold listG
  rw [faultsUp_z (fun i hi => h i (by omega)), if_neg (by omega)]
  rfl
theorem good_may {l : CL} {d : Int} (h : l.Good d) (hl : l.ps.length ≤ 256 ∧ l.rs.length ≤ 1024 ∧ l.us.length ≤ 256 ∧ l.ms.length ≤ 64 ∧ l.xs.length ≤ 16) : mayB l d = true := by
  unfold mayB checkF thingsF
  refine decide_eq_true ?_
  rw [listG_z hl.1 h.ps, listG_z hl.2.1 h.rs, listG_z hl.2.2.1 h.us, listG_z hl.2.2.2.1 h.ms, listG_z hl.2.2.2.2 h.xs, h.d]
  rfl
theorem ruleE_z {l : CL} {r : SRule} {i : Int} : ruleE l r i = 0 ↔ nameB r.name = true ∧ okM r.match_ = true ∧ ¬ (r.action < 1 ∨ 4 < r.action) ∧ ¬ ruleO l r = true ∧ ¬ ((r.meter ≠ ⟨#[]⟩ ∧ inM (metersM l) r.meter = false) ∨ (r.mirror ≠ ⟨#[]⟩ ∧ inM (mirrorsM l) r.mirror = false)) ∧ ¬ (findV eqs r.name (rulesM l)).getD 0 < i := by
  unfold ruleE
  split
  · rename_i h1
    exact ⟨fun h0 => absurd h0 (by decide), fun hh => by rw [hh.1] at h1; cases h1⟩
  rename_i h1
  split
  · rename_i h2
    exact ⟨fun h0 => absurd h0 (by decide), fun hh => absurd h2 hh.2.2.2.2.2⟩
  rename_i h2
  split
  · rename_i h3
    exact ⟨fun h0 => absurd h0 (by decide), fun hh => by rw [hh.2.1] at h3; cases h3⟩
  rename_i h3
  split
  · rename_i h4
    exact ⟨fun h0 => absurd h0 (by decide), fun hh => absurd h4 hh.2.2.1⟩
  rename_i h4
  split
  · rename_i h5
    exact ⟨fun h0 => absurd h0 (by decide), fun hh => absurd h5 hh.2.2.2.1⟩
  rename_i h5
  split
  · rename_i h6
    exact ⟨fun h0 => absurd h0 (by decide), fun hh => absurd h6 hh.2.2.2.2.1⟩
  rename_i h6
  exact ⟨fun _ => ⟨by simpa using h1, by simpa using h3, h4, h5, h6, h2⟩, fun _ => rfl⟩
theorem good_us {l : CL} {d : Int} (h : l.Good d) : (l.us.map (·.name)).Nodup := nodup_first eqs_iff eRule.zero fun i hi => (ruleE_z.1 (h.us i hi)).2.2.2.2.2
structure SAnon14 where
  is_ : Bool
  v6 : Bool
def SAnon14.to : (Bool × Bool) → SAnon14 := fun x => ⟨x.1, x.2⟩
def SAnon14.of : SAnon14 → (Bool × Bool) := fun x => (x.is_, x.v6)
def eAnon14 : Enc SAnon14 := isoE (prodE bE bE) SAnon14.to SAnon14.of
def SAnon14.l_is_ : Lens eAnon14 bE 0 := lIso _ SAnon14.to SAnon14.of (fun _ => rfl) (lFst bE bE)
@[simp] theorem SAnon14.get_is_ (x : SAnon14) : SAnon14.l_is_.get x = x.is_ := rfl
@[simp] theorem SAnon14.set_is_ (x : SAnon14) (y : Bool) : SAnon14.l_is_.set x y = { x with is_ := y } := rfl
def SAnon14.l_v6 : Lens eAnon14 bE 1 := lIso _ SAnon14.to SAnon14.of (fun _ => rfl) (Lens.comp (lSnd bE bE) (Lens.id bE))
@[simp] theorem SAnon14.get_v6 (x : SAnon14) : SAnon14.l_v6.get x = x.v6 := rfl
@[simp] theorem SAnon14.set_v6 (x : SAnon14) (y : Bool) : SAnon14.l_v6.set x y = { x with v6 := y } := rfl
@[simp] theorem zSpan_from : eSpan.zero.from_ = 0 := rfl
@[simp] theorem zSpan_to : eSpan.zero.to_ = 0 := rfl
def kst (k : Nat) (is v6 : Bool) : Nat := bif is then (bif v6 then k &&& 2 else k &&& 1) else k
def kI (m : SMatch) : Nat := kst (kst 3 (asksB m 2) m.src.addr.v6) (asksB m 4) m.dst.addr.v6
theorem kst_le {k : Nat} (h : k ≤ 3) (a b : Bool) : kst k a b ≤ 3 := by
  have h : k = 0 ∨ k = 1 ∨ k = 2 ∨ k = 3 := by omega
  rcases h with rfl | rfl | rfl | rfl <;> cases a <;> cases b <;> decide
def everyB (s : SSpan) (is : Bool) (top : UInt16) : SSpan := bif is then s else { s with to_ := top }
def spannedB (m n : SMatch) (w : UInt8) (a b : SSpan) (top : UInt16) : Bool := !asksB m w || (decide (a.from_ ≤ (everyB b (asksB n w) top).from_) && decide ((everyB b (asksB n w) top).to_ ≤ a.to_))
def prefixedB (m n : SMatch) (w : UInt8) (a b : SPrefix) : Bool := bif !asksB m w then true else bif asksB n w then coversP a b else (decide (a.bits = 0) && decide ((kI n : Int) = (bif a.addr.v6 then 2 else 1)))
def spansR (one : Bool) (a : SSpan) (other : Bool) (b : SSpan) (top : UInt16) : Bool := !one || (decide (a.from_ ≤ (bif other then b else ⟨0, top⟩).from_) && decide ((bif other then b else ⟨0, top⟩).to_ ≤ a.to_))
def prefixesR (one : Bool) (a : SPrefix) (other : Bool) (b : SPrefix) (v6 : Bool) : Bool := !one || (decide (a.bits ≤ (bif other then b else ⟨⟨v6, Vector.replicate 16 0⟩, 0⟩).bits) && hasP a (bif other then b else ⟨⟨v6, Vector.replicate 16 0⟩, 0⟩).addr)
def k4R (m : SMatch) : Bool := bif asksB m 4 then !m.dst.addr.v6 else bif asksB m 2 then !m.src.addr.v6 else true
def k6R (m : SMatch) : Bool := bif asksB m 4 then m.dst.addr.v6 else bif asksB m 2 then m.src.addr.v6 else true
theorem z195 : (Try.prog.info? 195).bind (·.zero) = some (eAnon14.val eAnon14.zero) := by kernel_rfl
theorem ty195 : TyOK Try.prog 195 eAnon14 := TyOK.mk' (by kernel_rfl) (by kernel_rfl)
theorem kinds_ok (m : SMatch) (w : World) : Calls Try.prog 82 #[eMatch.val m] w (RetV w (I ((kI m : Nat) : Int))) := by
  refine en0 40 Try.func82 ?_
  refine sg (cons (box (E := eMatch) (.t rfl) (fun b1 => ?_)))
  refine co (Ev.assign (.c (v := I 0) rfl)) ?_
  refine nP (sg (co (Ev.assign (.c (v := I 3) rfl)) ?_))
  refine nP (seq (seq (draw' (by kernel_rfl) ?_)))
  refine tk 0 rfl (Ev.ldx m ty55 (.t rfl) (Lens.id _)) ?_
  refine tk 2 rfl (fA 3 (.t rfl)) ?_
  refine tk 3 rfl (fA 0 (.t rfl)) ?_
  refine tk 4 rfl (fA 0 (.t rfl)) ?_
  refine tk 5 rfl (Ev.ldx m.src.addr.v6 ty4 (.t rfl) (Lens.comp (Lens.comp SMatch.l_src SPrefix.l_addr) SAddr.l_v6)) ?_
  refine tk 7 rfl (Ev.ldx m ty55 (.t rfl) (Lens.id _)) ?_
  refine tk 9 rfl (fA 21 (.t rfl)) ?_
  refine tk 10 rfl (fA 0 (.t rfl)) ?_
  refine tk 11 rfl (fA 0 (.t rfl)) ?_
  refine tk 12 rfl (Ev.ldx m.dst.addr.v6 ty4 (.t rfl) (Lens.comp (Lens.comp SMatch.l_dst SPrefix.l_addr) SAddr.l_v6)) ?_
  refine tk 16 rfl (Ev.move (.c (v := I 0) rfl)) ?_
  refine al1 1 rfl ((callv en48 (.cons (.t rfl) (.cons (.c (v := U8 2) rfl) .nil)) (fun w I => asks_ok _ _ w) ?_))
  refine hdn (tk 6 rfl (Ev.buildS (fs := _) (places := [(0, 1), (1, 1)]) z195 rfl Try.underlying195 (by kernel_rfl) (.cons (.t rfl) (.cons (.t rfl) .nil)) (Fills.cons SAnon14.l_is_ rfl (Fills.cons SAnon14.l_v6 rfl Fills.nil))) ?_)
  refine al1 8 rfl ((callv en48 (.cons (.t rfl) (.cons (.c (v := U8 4) rfl) .nil)) (fun w I => asks_ok _ _ w) ?_))
  refine hdn (tk 13 rfl (Ev.buildS (fs := _) (places := [(0, 1), (1, 1)]) z195 rfl Try.underlying195 (by kernel_rfl) (.cons (.t rfl) (.cons (.t rfl) .nil)) (Fills.cons SAnon14.l_is_ rfl (Fills.cons SAnon14.l_v6 rfl Fills.nil))) ?_)
  refine al1 14 rfl ((buildSlice (E := eAnon14) Try.underlying196 ty195 z195 (.cons (.t rfl) (.cons (.t rfl) .nil)) rfl rfl (fun v2 => ?_)))
  refine hdn (al1 15 rfl ((opv (Ev.len Try.underlying196 (.t rfl) (by first | exact isSl_own (by repeat first | exact mH | apply mT | apply mA) | exact fun w I => IsSl.keep0 (by assumption) I.keeps)) ?_)))
  refine hdn (ovr (pN (block (lp (X := Int × Nat) (fun x : Int × Nat => (0 ≤ x.1 ∧ x.1 ≤ 2) ∧ (x.2 ≤ 3) ∧ (x.2 = ([(⟨asksB m 2, m.src.addr.v6⟩ : SAnon14), ⟨asksB m 4, m.dst.addr.v6⟩].take x.1.toNat).foldl (fun q z => kst q z.is_ z.v6) 3)) (fun x : Int × Nat => [dz, (3, true, I ((x.2 : Nat) : Int)), (20, true, v2.v), (21, true, I 2), (22, true, I x.1)]) (fun x : Int × Nat => [OwnS v2.v eAnon14 [(⟨asksB m 2, m.src.addr.v6⟩ : SAnon14), ⟨asksB m 4, m.dst.addr.v6⟩] 195]) (fun x : Int × Nat => (2 - x.1).toNat) (0, 3) ⟨?_, ?_, ?_⟩ (fun x hx => ?_)))))
  · omega
  · omega
  · rfl
  obtain ⟨i, k⟩ := x
  obtain ⟨hi, hk, hkk⟩ : (0 ≤ i ∧ i ≤ 2) ∧ (k ≤ 3) ∧ (k = ([(⟨asksB m 2, m.src.addr.v6⟩ : SAnon14), ⟨asksB m 4, m.dst.addr.v6⟩].take i.toNat).foldl (fun q z => kst q z.is_ z.v6) 3) := hx
  show Sat _ _ [dz, (3, true, I ((k : Nat) : Int)), (20, true, v2.v), (21, true, I 2), (22, true, I i)] [OwnS v2.v eAnon14 [(⟨asksB m 2, m.src.addr.v6⟩ : SAnon14), ⟨asksB m 4, m.dst.addr.v6⟩] 195]
  refine sg (co (Ev.lss_i (.t rfl) (.t rfl)) ?_)
  refine nP (seq ?_)
  first | refine condD rfl (fun hlt => ?_) (fun hge => ?_) | refine cond rfl (fun hlt => ?_) (fun hge => ?_)
  · try simp only [Gx.nb] at hlt
    refine skip (pN (seq (block (sg (co (Ev.indexAddr Try.underlying196 ty195 (.t rfl) (.t rfl) (by first | exact isSl_own (by repeat first | exact mH | apply mT | apply mA) | exact fun w I => IsSl.keep0 (by assumption) I.keeps) (fun _ => by simp; omega)) ?_)))))
    refine co (Ev.loadS0 ty195 (.t rfl) (by first | exact isSl_own (by repeat first | exact mH | apply mT | apply mA) | exact fun w I => IsSl.keep0 (by assumption) I.keeps) (fun _ => by simp; omega)) ?_
    refine cons (alloc z195 (fun b3 => ?_))
    refine cons (stv ty195 (Lens.id _) (.t rfl) (.t rfl) ?_)
    refine nP (sg (co (fA 0 (.t rfl)) ?_))
    refine co (Ev.ldv ty4 (.t rfl) SAnon14.l_is_) ?_
    refine mv rfl (cg rfl rfl (fA 1 (.t rfl)) ?_)
    refine cg rfl rfl (Ev.ldv ty4 (.g rfl id) SAnon14.l_v6) ?_
    refine co (Ev.pkA (.t rfl) rfl) ?_
    refine nP ?_
    first | refine condD rfl (fun h1 => ?_) (fun h1 => ?_) | refine cond rfl (fun h1 => ?_) (fun h1 => ?_)
    · have hk2 : k &&& 2 = kst k ([(⟨asksB m 2, m.src.addr.v6⟩ : SAnon14), ⟨asksB m 4, m.dst.addr.v6⟩].getD i.toNat eAnon14.zero).is_ ([(⟨asksB m 2, m.src.addr.v6⟩ : SAnon14), ⟨asksB m 4, m.dst.addr.v6⟩].getD i.toNat eAnon14.zero).v6 := by unfold kst; simp_all
      refine region (mv rfl (co (Ev.bits_i (m := k) (n := 2) (r := k &&& 2) (.inl rfl) (.t rfl) (.c rfl) (fun _ => by omega) (fun _ => by decide) rfl) ?_))
      refine asn rfl (nil (bN (pN (region (co (Ev.add_i (.t rfl) (.c (v := I 1) rfl) (fun _ => by omega)) ?_)))))
      refine mv rfl (nP (nx (X := Int × Nat) (i + 1, _) ⟨?_, ?_, ?_⟩ ?_))
      · try dsimp only
        omega
      · try dsimp only
        rw [hk2]; exact kst_le hk _ _
      · try dsimp only
        rw [take_snoc _ i hi.1 (by simp; omega) eAnon14.zero, List.foldl_append, ← hkk]; exact hk2
      · try dsimp only
        omega
    · refine sg (co (fA 0 (.t rfl)) ?_)
      refine co (Ev.ldv ty4 (.t rfl) SAnon14.l_is_) ?_
      refine nP ?_
      first | refine condD rfl (fun h2 => ?_) (fun h2 => ?_) | refine cond rfl (fun h2 => ?_) (fun h2 => ?_)
      · have hk2 : k &&& 1 = kst k ([(⟨asksB m 2, m.src.addr.v6⟩ : SAnon14), ⟨asksB m 4, m.dst.addr.v6⟩].getD i.toNat eAnon14.zero).is_ ([(⟨asksB m 2, m.src.addr.v6⟩ : SAnon14), ⟨asksB m 4, m.dst.addr.v6⟩].getD i.toNat eAnon14.zero).v6 := by unfold kst; simp_all
        refine region (mv rfl (co (Ev.bits_i (m := k) (n := 1) (r := k &&& 1) (.inl rfl) (.t rfl) (.c rfl) (fun _ => by omega) (fun _ => by decide) rfl) ?_))
        refine asn rfl (nil (bN (pN (region (co (Ev.add_i (.t rfl) (.c (v := I 1) rfl) (fun _ => by omega)) ?_)))))
        refine mv rfl (nP (nx (X := Int × Nat) (i + 1, _) ⟨?_, ?_, ?_⟩ ?_))
        · try dsimp only
          omega
        · try dsimp only
          rw [hk2]; exact kst_le hk _ _
        · try dsimp only
          rw [take_snoc _ i hi.1 (by simp; omega) eAnon14.zero, List.foldl_append, ← hkk]; exact hk2
        · try dsimp only
          omega
      · have hk2 : k = kst k ([(⟨asksB m 2, m.src.addr.v6⟩ : SAnon14), ⟨asksB m 4, m.dst.addr.v6⟩].getD i.toNat eAnon14.zero).is_ ([(⟨asksB m 2, m.src.addr.v6⟩ : SAnon14), ⟨asksB m 4, m.dst.addr.v6⟩].getD i.toNat eAnon14.zero).v6 := by unfold kst; simp_all
        refine skip (bN (pN (region (co (Ev.add_i (.t rfl) (.c (v := I 1) rfl) (fun _ => by omega)) ?_))))
        refine mv rfl (nP (nx (X := Int × Nat) (i + 1, _) ⟨?_, ?_, ?_⟩ ?_))
        · try dsimp only
          omega
        · try dsimp only
          rw [hk2]; exact kst_le hk _ _
        · try dsimp only
          rw [take_snoc _ i hi.1 (by simp; omega) eAnon14.zero, List.foldl_append, ← hkk]; exact hk2
        · try dsimp only
          omega
  · try simp only [Gx.nb] at hge
    refine exit (pX (pX (bX (pN (sg (mv rfl (asn rfl (nP (ret (done rfl (.tmp rfl .nil) (retE ?_)))))))))))
    have e : i.toNat = 2 := by omega
    rw [hkk, e]; rfl
theorem every_ok (s : SSpan) (is : Bool) (top : UInt16) (w : World) : Calls Try.prog 81 #[eSpan.val s, .bool is, U16 top] w (RetV w (eSpan.val (everyB s is top))) := by
  refine en0 12 Try.func81 ?_
  refine sg (cons (box (E := eSpan) (.t rfl) (fun b1 => ?_)))
  refine cons (alloc z51 (fun b2 => ?_))
  refine nP (seq (sg (mv rfl (co (Ev.not (.t rfl)) ?_))))
  refine nP ?_
  first | refine condD rfl (fun h0 => ?_) (fun h0 => ?_) | refine cond rfl (fun h0 => ?_) (fun h0 => ?_)
  · try simp only [Gx.nb] at h0
    refine region (mv rfl (co (fA 1 (.t rfl)) ?_))
    refine cons (stv ty38 SSpan.l_to_ (.t rfl) (.t rfl) ?_)
    refine nP (sg (co (Ev.ldv ty51 (.t rfl) (Lens.id _)) ?_))
    refine cons (stv ty51 (Lens.id _) (.t rfl) (.t rfl) ?_)
    refine nP (ret (done rfl (.cell rfl (fun w I => run_loadVar_pts ty51 (ptsVar (by repeat first | exact mH | apply mT | apply mA) (Lens.id _) w I)) .nil) (retE ?_)))
    unfold everyB
    cases is <;> first | rfl | simp_all
  · try simp only [Gx.nb] at h0
    refine skip (pN (sg (co (Ev.ldv ty51 (.t rfl) (Lens.id _)) ?_)))
    refine cons (stv ty51 (Lens.id _) (.t rfl) (.t rfl) ?_)
    refine nP (ret (done rfl (.cell rfl (fun w I => run_loadVar_pts ty51 (ptsVar (by repeat first | exact mH | apply mT | apply mA) (Lens.id _) w I)) .nil) (retE ?_)))
    unfold everyB
    cases is <;> first | rfl | simp_all
theorem en81 : Gx.Enters Try.prog 81 := Gx.Enters.mk' (by kernel_rfl)
theorem spanned_ok (m n : SMatch) (q : UInt8) (a b : SSpan) (top : UInt16) (w : World) : Calls Try.prog 62 #[eMatch.val m, eMatch.val n, U8 q, eSpan.val a, eSpan.val b, U16 top] w (RetV w (.bool (spannedB m n q a b top))) := by
  refine en0 37 Try.func62 ?_
  refine sg (cons (box (E := eMatch) (.t rfl) (fun b1 => ?_)))
  refine cons (box (E := eMatch) (.t rfl) (fun b2 => ?_))
  refine cons (box (E := eSpan) (.t rfl) (fun b3 => ?_))
  refine cons (box (E := eSpan) (.t rfl) (fun b4 => ?_))
  refine co (Ev.assign (.c (v := .bool false) rfl)) ?_
  refine nP (seq (drawS 10 rfl (by repeat first | exact Rem.head | apply Rem.tail) (by kernel_rfl) ?_))
  refine tk 1 rfl (Ev.ldx n ty55 (.t rfl) (Lens.id _)) ?_
  refine tk 2 rfl (Ev.move (.t rfl)) ?_
  refine tk 4 rfl (Ev.move (.t rfl)) ?_
  refine all [0, 3] (by kernel_rfl) (by decide) (.cons rfl ?_ (.cons rfl ?_ .nil))
  · refine (opv (Ev.ldv ty51 (.t rfl) (Lens.id _)) ?_)
    refine hdn (al1 3 rfl ((callv en48 (.cons (.t rfl) (.cons (.t rfl) .nil)) (fun w I => asks_ok _ _ w) ?_)))
    refine hdn (al1 5 rfl ((callv en81 (.cons (.t rfl) (.cons (.t rfl) (.cons (.t rfl) .nil))) (fun w I => every_ok _ _ _ w) ?_)))
    refine hdn (al1 6 rfl ((stv ty51 (Lens.id _) (.t rfl) (.t rfl) ?_)))
    refine hdn (ovr (pN (sg (co (Ev.ldx m ty55 (.t rfl) (Lens.id _)) ?_))))
    refine mv rfl (cons (callv en48 (.cons (.t rfl) (.cons (.t rfl) .nil)) (fun w I => asks_ok _ _ w) ?_))
    refine co (Ev.not (.t rfl)) ?_
    refine mv rfl (cg rfl rfl (fA 0 (.t rfl)) ?_)
    refine cg rfl rfl (Ev.ldx a.from_ ty38 (.g rfl id) SSpan.l_from_) ?_
    refine cg rfl rfl (fA 0 (.t rfl)) ?_
    refine cg rfl rfl (Ev.ldv ty38 (.g rfl id) SSpan.l_from_) ?_
    refine cg rfl rfl (Ev.leq_u16 (.g rfl id) (.g rfl id)) ?_
    refine cg rfl rfl (Ev.move (.g rfl id)) ?_
    refine cg rfl rfl (fA 1 (.t rfl)) ?_
    refine cg rfl rfl (Ev.ldv ty38 (.g rfl id) SSpan.l_to_) ?_
    refine cg rfl rfl (fA 1 (.t rfl)) ?_
    refine cg rfl rfl (Ev.ldx a.to_ ty38 (.g rfl id) SSpan.l_to_) ?_
    refine cg rfl rfl (Ev.leq_u16 (.g rfl id) (.g rfl id)) ?_
    refine cg rfl rfl (Ev.pkA (.g rfl id) rfl) ?_
    refine co (Ev.pkO (.t rfl) rfl) ?_
    refine asn rfl (nP (ret (done rfl (.tmp rfl .nil) (retE ?_))))
    rfl
  · refine (callv en48 (.cons (.t rfl) (.cons (.t rfl) .nil)) (fun w I => asks_ok _ _ w) ?_)
    refine hdn (al1 0 rfl ((opv (Ev.ldv ty51 (.t rfl) (Lens.id _)) ?_)))
    refine hdn (al1 5 rfl ((callv en81 (.cons (.t rfl) (.cons (.t rfl) (.cons (.t rfl) .nil))) (fun w I => every_ok _ _ _ w) ?_)))
    refine hdn (al1 6 rfl ((stv ty51 (Lens.id _) (.t rfl) (.t rfl) ?_)))
    refine hdn (ovr (pN (sg (co (Ev.ldx m ty55 (.t rfl) (Lens.id _)) ?_))))
    refine mv rfl (cons (callv en48 (.cons (.t rfl) (.cons (.t rfl) .nil)) (fun w I => asks_ok _ _ w) ?_))
    refine co (Ev.not (.t rfl)) ?_
    refine mv rfl (cg rfl rfl (fA 0 (.t rfl)) ?_)
    refine cg rfl rfl (Ev.ldx a.from_ ty38 (.g rfl id) SSpan.l_from_) ?_
    refine cg rfl rfl (fA 0 (.t rfl)) ?_
    refine cg rfl rfl (Ev.ldv ty38 (.g rfl id) SSpan.l_from_) ?_
    refine cg rfl rfl (Ev.leq_u16 (.g rfl id) (.g rfl id)) ?_
    refine cg rfl rfl (Ev.move (.g rfl id)) ?_
    refine cg rfl rfl (fA 1 (.t rfl)) ?_
    refine cg rfl rfl (Ev.ldv ty38 (.g rfl id) SSpan.l_to_) ?_
    refine cg rfl rfl (fA 1 (.t rfl)) ?_
    refine cg rfl rfl (Ev.ldx a.to_ ty38 (.g rfl id) SSpan.l_to_) ?_
    refine cg rfl rfl (Ev.leq_u16 (.g rfl id) (.g rfl id)) ?_
    refine cg rfl rfl (Ev.pkA (.g rfl id) rfl) ?_
    refine co (Ev.pkO (.t rfl) rfl) ?_
    refine asn rfl (nP (ret (done rfl (.tmp rfl .nil) (retE ?_))))
    rfl
theorem en79 : Gx.Enters Try.prog 79 := Gx.Enters.mk' (by kernel_rfl)
theorem en82 : Gx.Enters Try.prog 82 := Gx.Enters.mk' (by kernel_rfl)
theorem prefixed_ok (m n : SMatch) (q : UInt8) (a b : SPrefix) (w : World) : Calls Try.prog 63 #[eMatch.val m, eMatch.val n, U8 q, ePrefix.val a, ePrefix.val b] w (RetV w (.bool (prefixedB m n q a b))) := by
  refine en0 36 Try.func63 ?_
  refine sg (cons (box (E := eMatch) (.t rfl) (fun b1 => ?_)))
  refine cons (box (E := eMatch) (.t rfl) (fun b2 => ?_))
  refine cons (box (E := ePrefix) (.t rfl) (fun b3 => ?_))
  refine cons (box (E := ePrefix) (.t rfl) (fun b4 => ?_))
  refine co (Ev.assign (.c (v := .bool false) rfl)) ?_
  refine nP (seq (block (sg (co (Ev.ldx m ty55 (.t rfl) (Lens.id _)) ?_))))
  refine mv rfl (cons (callv en48 (.cons (.t rfl) (.cons (.t rfl) .nil)) (fun w I => asks_ok _ _ w) ?_))
  refine co (Ev.not (.t rfl)) ?_
  refine asn rfl (nP ?_)
  first | refine condD rfl (fun h0 => ?_) (fun h0 => ?_) | refine cond rfl (fun h0 => ?_) (fun h0 => ?_)
  · try simp only [Gx.nb] at h0
    refine sg (co (Ev.assign (.c (v := .bool true) rfl)) ?_)
    refine nP (ret (bR (pR (done rfl (.tmp rfl .nil) (retE ?_)))))
    simp_all [prefixedB, asksB, tupV]
  · try simp only [Gx.nb] at h0
    refine sg (co (Ev.ldx n ty55 (.t rfl) (Lens.id _)) ?_)
    refine mv rfl (cons (callv en48 (.cons (.t rfl) (.cons (.t rfl) .nil)) (fun w I => asks_ok _ _ w) ?_))
    refine asn rfl (nP ?_)
    first | refine condD rfl (fun h1 => ?_) (fun h1 => ?_) | refine cond rfl (fun h1 => ?_) (fun h1 => ?_)
    · try simp only [Gx.nb] at h1
      refine sg (co (Ev.ldx a ty53 (.t rfl) (Lens.id _)) ?_)
      refine co (Ev.ldx b ty53 (.t rfl) (Lens.id _)) ?_
      refine cons (callv en79 (.cons (.t rfl) (.cons (.t rfl) .nil)) (fun w I => coversP_ok _ _ w) ?_)
      refine asn rfl (nP (ret (bR (pR (done rfl (.tmp rfl .nil) (retE ?_))))))
      simp_all [prefixedB, asksB, tupV]
    · try simp only [Gx.nb] at h1
      refine skip (bN (pN (sg (co (Ev.assign (.c (v := I 1) rfl)) ?_))))
      refine nP (seq (sg (co (fA 0 (.t rfl)) ?_)))
      refine co (fA 0 (.t rfl)) ?_
      refine co (Ev.ldx a.addr.v6 ty4 (.t rfl) (Lens.comp SPrefix.l_addr SAddr.l_v6)) ?_
      refine nP ?_
      first | refine condD rfl (fun h2 => ?_) (fun h2 => ?_) | refine cond rfl (fun h2 => ?_) (fun h2 => ?_)
      · try simp only [Gx.nb] at h2
        refine region (co (Ev.assign (.c (v := I 2) rfl)) ?_)
        refine nP (sg (co (fA 17 (.t rfl)) ?_))
        refine co (Ev.ldx a.bits ty3 (.t rfl) SPrefix.l_bits) ?_
        refine co (Ev.eql_i (.t rfl) (.c (v := I 0) rfl)) ?_
        refine mv rfl (cg rfl rfl (Ev.ldx n ty55 (.t rfl) (Lens.id _)) ?_)
        refine cons (callg rfl rfl en82 (.cons (.g rfl id) .nil) (fun hg w I => kinds_ok _ w) ?_)
        refine cg rfl rfl (Ev.move (.t rfl)) ?_
        refine cg rfl rfl (Ev.eql_i (.g rfl id) (.g rfl id)) ?_
        refine co (Ev.pkA (.t rfl) rfl) ?_
        refine asn rfl (nP (ret (done rfl (.tmp rfl .nil) (retE ?_))))
        simp_all [prefixedB, asksB, tupV]
      · try simp only [Gx.nb] at h2
        refine skip (pN (sg (co (fA 17 (.t rfl)) ?_)))
        refine co (Ev.ldx a.bits ty3 (.t rfl) SPrefix.l_bits) ?_
        refine co (Ev.eql_i (.t rfl) (.c (v := I 0) rfl)) ?_
        refine mv rfl (cg rfl rfl (Ev.ldx n ty55 (.t rfl) (Lens.id _)) ?_)
        refine cons (callg rfl rfl en82 (.cons (.g rfl id) .nil) (fun hg w I => kinds_ok _ w) ?_)
        refine cg rfl rfl (Ev.move (.t rfl)) ?_
        refine cg rfl rfl (Ev.eql_i (.g rfl id) (.g rfl id)) ?_
        refine co (Ev.pkA (.t rfl) rfl) ?_
        refine asn rfl (nP (ret (done rfl (.tmp rfl .nil) (retE ?_))))
        simp_all [prefixedB, asksB, tupV]
def unlikeB (a b : SSpan) : Bool := decide (a.to_ < b.from_) || decide (b.to_ < a.from_)
def coversM (m n : SMatch) : Bool := (okM m && okM n) && (!(asksB m 8 && (!asksB n 8 || decide (¬ m.proto = n.proto))) && (spannedB m n 1 m.in_ n.in_ 255 && prefixedB m n 2 m.src n.src && prefixedB m n 4 m.dst n.dst && spannedB m n 16 m.srcPort n.srcPort 65535 && spannedB m n 32 m.dstPort n.dstPort 65535))
def pfx (m n : SMatch) (v : Bool) : Bool := prefixesR (asksB m 2) m.src (asksB n 2) n.src v && prefixesR (asksB m 4) m.dst (asksB n 4) n.dst v
def coversR (m n : SMatch) : Bool := (okM m && okM n) && (spansR (asksB m 1) m.in_ (asksB n 1) n.in_ 255 && ((!k4R n || pfx m n false) && (!k6R n || pfx m n true)) && !(asksB m 8 && (!asksB n 8 || decide (¬ m.proto = n.proto))) && (spansR (asksB m 16) m.srcPort (asksB n 16) n.srcPort 65535 && spansR (asksB m 32) m.dstPort (asksB n 32) n.dstPort 65535))
def both2 (m n : SMatch) (w : UInt8) : Bool := decide (¬ (m.asks &&& n.asks) &&& w = 0)
def apartM (m n : SMatch) : Bool := (okM m && okM n) && (decide (((kI m &&& kI n : Nat) : Int) = 0) || (both2 m n 8 && decide (¬ m.proto = n.proto)) || (both2 m n 1 && unlikeB m.in_ n.in_) || (both2 m n 16 && unlikeB m.srcPort n.srcPort) || (both2 m n 32 && unlikeB m.dstPort n.dstPort) || (both2 m n 2 && !coversP m.src n.src && !coversP n.src m.src) || (both2 m n 4 && !coversP m.dst n.dst && !coversP n.dst m.dst))
def meetB (p q : SPrefix) : Bool := hasP p q.addr || hasP q p.addr
def apartR (m n : SMatch) : Bool := (okM m && okM n) && ((asksB m 1 && asksB n 1 && unlikeB m.in_ n.in_) || !((k4R m && k4R n) || (k6R m && k6R n)) || (asksB m 8 && asksB n 8 && decide (¬ m.proto = n.proto)) || (asksB m 2 && asksB n 2 && !meetB m.src n.src) || (asksB m 4 && asksB n 4 && !meetB m.dst n.dst) || (asksB m 16 && asksB n 16 && unlikeB m.srcPort n.srcPort) || (asksB m 32 && asksB n 32 && unlikeB m.dstPort n.dstPort))
theorem en62 : Gx.Enters Try.prog 62 := Gx.Enters.mk' (by kernel_rfl)
theorem en63 : Gx.Enters Try.prog 63 := Gx.Enters.mk' (by kernel_rfl)
theorem covers_ok (m n : SMatch) (w : World) : Calls Try.prog 37 #[eMatch.val m, eMatch.val n] w (RetV w (.bool (coversM m n))) := by
  refine en0 70 Try.func37 ?_
  refine sg (cons (box (E := eMatch) (.t rfl) (fun b1 => ?_)))
  refine cons (box (E := eMatch) (.t rfl) (fun b2 => ?_))
  refine co (Ev.assign (.c (v := .bool false) rfl)) ?_
  refine nP (seq (sg (co (Ev.ldx m ty55 (.t rfl) (Lens.id _)) ?_)))
  refine cons (callv en30 (.cons (.t rfl) .nil) (fun w I => check_ok _ w) ?_)
  refine co (Ev.to (v' := .bool (!okM m)) (Ev.neq_i (.t rfl) (.c (v := I 0) rfl)) (congrArg Value.bool (by rw [← ckM_zero]; simp))) ?_
  refine mv rfl (cg rfl rfl (Ev.ldx n ty55 (.t rfl) (Lens.id _)) ?_)
  refine cons (callg rfl rfl en30 (.cons (.g rfl id) .nil) (fun hg w I => check_ok _ w) ?_)
  refine cg rfl rfl (Ev.to (v' := .bool (!okM n)) (Ev.neq_i (.g rfl id) (.c (v := I 0) rfl)) (congrArg Value.bool (by rw [← ckM_zero]; simp))) ?_
  refine co (Ev.pkO (.t rfl) rfl) ?_
  refine nP ?_
  first | refine condD rfl (fun h0 => ?_) (fun h0 => ?_) | refine cond rfl (fun h0 => ?_) (fun h0 => ?_)
  · refine sg (co (Ev.assign (.c (v := .bool false) rfl)) ?_)
    refine nP (ret (pR (done rfl (.tmp rfl .nil) (retE ?_))))
    refine bX2 ?_
    unfold coversM
    have h0c : (okM m && okM n) = false := by cases ha : okM m <;> cases hb : okM n <;> simp_all
    rw [h0c]; rfl
  · refine skip (pN (seq (sg (co (Ev.ldx m ty55 (.t rfl) (Lens.id _)) ?_))))
    refine cons (callv en48 (.cons (.t rfl) (.cons (.c (v := U8 8) rfl) .nil)) (fun w I => asks_ok _ _ w) ?_)
    refine mv rfl (cg rfl rfl (Ev.ldx n ty55 (.t rfl) (Lens.id _)) ?_)
    refine cons (callg rfl rfl en48 (.cons (.g rfl id) (.cons (.c (v := U8 8) rfl) .nil)) (fun hg w I => asks_ok _ _ w) ?_)
    refine cg rfl rfl (Ev.not (.g rfl id)) ?_
    refine cg rfl rfl (Ev.move (.g rfl id)) ?_
    refine cg rfl rfl (fA 39 (.t rfl)) ?_
    refine cg rfl rfl (Ev.ldx m.proto ty5 (.g rfl id) SMatch.l_proto) ?_
    refine cg rfl rfl (fA 39 (.t rfl)) ?_
    refine cg rfl rfl (Ev.ldx n.proto ty5 (.g rfl id) SMatch.l_proto) ?_
    refine cg rfl rfl (Ev.neq_u8 (.g rfl id) (.g rfl id)) ?_
    refine cg rfl rfl (Ev.pkO (.g rfl id) rfl) ?_
    refine co (Ev.pkA (.t rfl) rfl) ?_
    refine nP ?_
    first | refine condD rfl (fun h1 => ?_) (fun h1 => ?_) | refine cond rfl (fun h1 => ?_) (fun h1 => ?_)
    · refine sg (co (Ev.assign (.c (v := .bool false) rfl)) ?_)
      refine nP (ret (pR (done rfl (.tmp rfl .nil) (retE ?_))))
      refine bX2 ?_
      unfold coversM
      rw [h1]; simp
    · refine skip (pN (sg (co (Ev.ldx m ty55 (.t rfl) (Lens.id _)) ?_)))
      refine co (Ev.ldx n ty55 (.t rfl) (Lens.id _)) ?_
      refine co (fA 1 (.t rfl)) ?_
      refine co (Ev.ldx m.in_ ty51 (.t rfl) SMatch.l_in_) ?_
      refine co (fA 1 (.t rfl)) ?_
      refine co (Ev.ldx n.in_ ty51 (.t rfl) SMatch.l_in_) ?_
      refine cons (callv en62 (.cons (.t rfl) (.cons (.t rfl) (.cons (.c (v := U8 1) rfl) (.cons (.t rfl) (.cons (.t rfl) (.cons (.c (v := U16 255) rfl) .nil)))))) (fun w I => spanned_ok _ _ _ _ _ _ w) ?_)
      refine mv rfl (cg rfl rfl (Ev.ldx m ty55 (.t rfl) (Lens.id _)) ?_)
      refine cg rfl rfl (Ev.ldx n ty55 (.t rfl) (Lens.id _)) ?_
      refine cg rfl rfl (fA 3 (.t rfl)) ?_
      refine cg rfl rfl (Ev.ldx m.src ty53 (.g rfl id) SMatch.l_src) ?_
      refine cg rfl rfl (fA 3 (.t rfl)) ?_
      refine cg rfl rfl (Ev.ldx n.src ty53 (.g rfl id) SMatch.l_src) ?_
      refine cons (callg rfl rfl en63 (.cons (.g rfl id) (.cons (.g rfl id) (.cons (.c (v := U8 2) rfl) (.cons (.g rfl id) (.cons (.g rfl id) .nil))))) (fun hg w I => prefixed_ok _ _ _ _ _ w) ?_)
      refine co (Ev.pkA (.t rfl) rfl) ?_
      refine mv rfl (cg rfl rfl (Ev.ldx m ty55 (.t rfl) (Lens.id _)) ?_)
      refine cg rfl rfl (Ev.ldx n ty55 (.t rfl) (Lens.id _)) ?_
      refine cg rfl rfl (fA 21 (.t rfl)) ?_
      refine cg rfl rfl (Ev.ldx m.dst ty53 (.g rfl id) SMatch.l_dst) ?_
      refine cg rfl rfl (fA 21 (.t rfl)) ?_
      refine cg rfl rfl (Ev.ldx n.dst ty53 (.g rfl id) SMatch.l_dst) ?_
      refine cons (callg rfl rfl en63 (.cons (.g rfl id) (.cons (.g rfl id) (.cons (.c (v := U8 4) rfl) (.cons (.g rfl id) (.cons (.g rfl id) .nil))))) (fun hg w I => prefixed_ok _ _ _ _ _ w) ?_)
      refine co (Ev.pkA (.t rfl) rfl) ?_
      refine mv rfl (cg rfl rfl (Ev.ldx m ty55 (.t rfl) (Lens.id _)) ?_)
      refine cg rfl rfl (Ev.ldx n ty55 (.t rfl) (Lens.id _)) ?_
      refine cg rfl rfl (fA 40 (.t rfl)) ?_
      refine cg rfl rfl (Ev.ldx m.srcPort ty51 (.g rfl id) SMatch.l_srcPort) ?_
      refine cg rfl rfl (fA 40 (.t rfl)) ?_
      refine cg rfl rfl (Ev.ldx n.srcPort ty51 (.g rfl id) SMatch.l_srcPort) ?_
      refine cons (callg rfl rfl en62 (.cons (.g rfl id) (.cons (.g rfl id) (.cons (.c (v := U8 16) rfl) (.cons (.g rfl id) (.cons (.g rfl id) (.cons (.c (v := U16 65535) rfl) .nil)))))) (fun hg w I => spanned_ok _ _ _ _ _ _ w) ?_)
      refine co (Ev.pkA (.t rfl) rfl) ?_
      refine mv rfl (cg rfl rfl (Ev.ldx m ty55 (.t rfl) (Lens.id _)) ?_)
      refine cg rfl rfl (Ev.ldx n ty55 (.t rfl) (Lens.id _)) ?_
      refine cg rfl rfl (fA 42 (.t rfl)) ?_
      refine cg rfl rfl (Ev.ldx m.dstPort ty51 (.g rfl id) SMatch.l_dstPort) ?_
      refine cg rfl rfl (fA 42 (.t rfl)) ?_
      refine cg rfl rfl (Ev.ldx n.dstPort ty51 (.g rfl id) SMatch.l_dstPort) ?_
      refine cons (callg rfl rfl en62 (.cons (.g rfl id) (.cons (.g rfl id) (.cons (.c (v := U8 32) rfl) (.cons (.g rfl id) (.cons (.g rfl id) (.cons (.c (v := U16 65535) rfl) .nil)))))) (fun hg w I => spanned_ok _ _ _ _ _ _ w) ?_)
      refine co (Ev.pkA (.t rfl) rfl) ?_
      refine asn rfl (nP (ret (done rfl (.tmp rfl .nil) (retE ?_))))
      refine bX2 ?_
      unfold coversM
      have h0c : (okM m && okM n) = true := by simpa using h0
      rw [h0c, h1]; simp [Bool.and_assoc]
structure Ok (m : SMatch) : Prop where
  in_ : asksB m 1 = false → m.in_ = eSpan.zero
  src : asksB m 2 = false → m.src = ePrefix.zero
  dst : asksB m 4 = false → m.dst = ePrefix.zero
  proto : asksB m 8 = false → m.proto = 0
  srcPort : asksB m 16 = false → m.srcPort = eSpan.zero
  dstPort : asksB m 32 = false → m.dstPort = eSpan.zero
  csrc : asksB m 2 = true → checkP m.src = 0
  cdst : asksB m 4 = true → checkP m.dst = 0
  same : asksB m 2 = true → asksB m 4 = true → m.src.addr.v6 = m.dst.addr.v6
theorem Ok.of {m : SMatch} (h : okM m = true) : Ok m := by
  unfold okM bad0 bad2 at h
  simp at h
  obtain ⟨⟨⟨h0, _⟩, h2⟩, _⟩ := h
  have r : ∀ {x : Bool} {p : Prop}, (x = true ∨ p) → x = false → p := fun h e => h.resolve_left (by rw [e]; simp)
  have q : ∀ {x : Bool} {p : Prop}, (x = false ∨ p) → x = true → p := fun h e => h.resolve_left (by rw [e]; simp)
  exact ⟨r h0.1.1.1.1.1.2, r h0.1.1.1.1.2, r h0.1.1.1.2, r h0.1.1.2, r h0.1.2, r h0.2, q h2.1.1, q h2.1.2, fun e1 e2 => by simpa [e1, e2] using h2.2⟩
theorem spanned_eq (m n : SMatch) (w : UInt8) (a b : SSpan) (top : UInt16) (h : asksB n w = false → b = eSpan.zero) : spannedB m n w a b top = spansR (asksB m w) a (asksB n w) b top := by
  unfold spannedB spansR everyB
  cases hn : asksB n w with
  | true => rfl
  | false =>
    rw [h hn]
    rfl
theorem kI_eq {n : SMatch} (h : Ok n) : kI n = (bif k4R n then 1 else 0) + (bif k6R n then 2 else 0) ∧ (k4R n || k6R n) = true := by
  have hs := h.same
  unfold kI k4R k6R kst
  cases h2 : asksB n 2 <;> cases h4 : asksB n 4 <;> cases h5 : n.src.addr.v6 <;> cases h6 : n.dst.addr.v6 <;> simp_all
theorem zeroA (v : Bool) : checkA ⟨v, Vector.replicate 16 0⟩ = 0 := (checkA_zero _).2 (fun i h0 h1 => by
  have hw := wd_le ⟨v, Vector.replicate 16 0⟩
  unfold bitU
  have e : (Vector.replicate 16 (0 : UInt8)).toList.getD (i / 8).toNat 0 = 0 := by
    rw [vec_getD _ _ (by omega)]
    simp
  rw [e]
  apply UInt8.toNat_inj.1
  rw [UInt8.toNat_and, toNat_shr8]
  simp)
theorem hasP_zero (a : SPrefix) (v : Bool) (hc : checkP a = 0) (h0 : a.bits = 0) : hasP a ⟨v, Vector.replicate 16 0⟩ = decide (v = a.addr.v6) := by
  rw [Bool.eq_iff_iff, hasP_iff, decide_eq_true_iff]
  exact ⟨fun h => h.2.2.1, fun h => ⟨hc, zeroA v, h, fun i h1 h2 => by omega⟩⟩
theorem prefixed_eq (m n : SMatch) (w : UInt8) (a b : SPrefix) (hn : Ok n) (ha : asksB m w = true → checkP a = 0) (hb : asksB n w = true → checkP b = 0) :
    prefixedB m n w a b = ((!k4R n || prefixesR (asksB m w) a (asksB n w) b false) && (!k6R n || prefixesR (asksB m w) a (asksB n w) b true)) := by
  obtain ⟨hk, hne⟩ := kI_eq hn
  unfold prefixedB prefixesR
  cases hm : asksB m w with
  | false => simp
  | true =>
    cases hw : asksB n w with
    | true =>
      have := hb hw
      unfold coversP
      rw [this]
      cases h4 : k4R n <;> cases h6 : k6R n <;> simp_all
    | false =>
      have hc := ha hm
      have hp := ((checkP_zero a).1 hc).1
      by_cases h0 : a.bits = 0
      · simp only [cond_false, cond_true, Bool.not_true, Bool.false_or, hasP_zero a _ hc h0, h0]
        rw [hk]
        cases h4 : k4R n <;> cases h6 : k6R n <;> cases h5 : a.addr.v6 <;> simp_all
      · have h1 : ¬ a.bits ≤ 0 := by omega
        simp only [cond_false, cond_true, Bool.not_true, Bool.false_or, h0, h1, decide_false, Bool.false_and]
        cases h4 : k4R n <;> cases h6 : k6R n <;> simp_all
theorem covers_eq (m n : SMatch) : coversM m n = coversR m n := by
  unfold coversM coversR
  cases hm : okM m with
  | false => rfl
  | true =>
    cases hn : okM n with
    | false => rfl
    | true =>
      have om := Ok.of hm
      have on := Ok.of hn
      rw [spanned_eq m n 1 _ _ _ on.in_, spanned_eq m n 16 _ _ _ on.srcPort, spanned_eq m n 32 _ _ _ on.dstPort, prefixed_eq m n 2 _ _ on om.csrc on.csrc, prefixed_eq m n 4 _ _ on om.cdst on.cdst]
      unfold pfx
      generalize prefixesR (asksB m 2) m.src (asksB n 2) n.src false = p1
      generalize prefixesR (asksB m 2) m.src (asksB n 2) n.src true = p2
      generalize prefixesR (asksB m 4) m.dst (asksB n 4) n.dst false = p3
      generalize prefixesR (asksB m 4) m.dst (asksB n 4) n.dst true = p4
      generalize spansR (asksB m 1) m.in_ (asksB n 1) n.in_ 255 = s1
      generalize spansR (asksB m 16) m.srcPort (asksB n 16) n.srcPort 65535 = s2
      generalize spansR (asksB m 32) m.dstPort (asksB n 32) n.dstPort 65535 = s3
      generalize (asksB m 8 && (!asksB n 8 || decide ¬m.proto = n.proto)) = q
      cases k4R n <;> cases k6R n <;> cases s1 <;> cases q <;> cases p1 <;> cases p2 <;> simp [Bool.and_assoc]
def qM (k : Nat) (m : SMatch) (n : Int) (h : SHeader) : Bool := match k with
  | 0 => withinB m.in_ n
  | 1 => decide (h.proto = m.proto)
  | 2 => hasP m.src h.src
  | 3 => hasP m.dst h.dst
  | 4 => withinB m.srcPort h.srcPort.toNat
  | _ => withinB m.dstPort h.dstPort.toNat
def fM (k : Nat) : Nat := ([49, 51, 52, 53, 54, 55] : List Nat).getD k 0
def ksA (c : Bool) (k : Nat) (l : List Nat) : List Nat := bif c then l ++ [k] else l
def ks (m : SMatch) : List Nat := ksA (asksB m 32) 5 (ksA (asksB m 16) 4 (ksA (asksB m 4) 3 (ksA (asksB m 2) 2 (ksA (asksB m 8) 1 (ksA (asksB m 1) 0 [])))))
def closL (p : Nat) (l : List Nat) : List OV := l.map fun k => clo (fM k) [.pointer (some ⟨p, 0, none⟩)]
def clos (m : SMatch) (p : Nat) : List OV := closL p (ks m)
theorem ksA_mem {c : Bool} {k j : Nat} {l : List Nat} (h : j ∈ ksA c k l) : j = k ∨ j ∈ l := by
  unfold ksA at h
  cases c
  · exact .inr h
  · rcases List.mem_append.1 h with h | h
    · exact .inr h
    · exact .inl (List.mem_singleton.1 h)
theorem ks_lt {m : SMatch} {k : Nat} (h : k ∈ ks m) : k < 6 := by
  unfold ks at h
  rcases ksA_mem h with rfl | h <;> (try omega)
  rcases ksA_mem h with rfl | h <;> (try omega)
  rcases ksA_mem h with rfl | h <;> (try omega)
  rcases ksA_mem h with rfl | h <;> (try omega)
  rcases ksA_mem h with rfl | h <;> (try omega)
  rcases ksA_mem h with rfl | h <;> (try omega)
  cases h
def metB (m : SMatch) (n : Int) (h : SHeader) : Bool := (ks m).all fun k => qM k m n h
def meetsB (m : SMatch) (n : Int) (h : SHeader) : Bool := okM m && metB m n h
theorem all_ksA (c : Bool) (k : Nat) (l : List Nat) (q : Nat → Bool) : (ksA c k l).all q = (l.all q && (!c || q k)) := by
  unfold ksA
  cases c <;> simp
theorem en50 : Gx.Enters Try.prog 50 := Gx.Enters.mk' (by kernel_rfl)
theorem cl0_ok (m : SMatch) (n : Int) (h : SHeader) (p hp : Nat) (w : World) (hm : PtsTo eMatch w p 0 m) (hh : PtsTo eHeader w hp 0 h) : Calls Try.prog 49 #[I n, .pointer (some ⟨hp, 0, none⟩), .pointer (some ⟨p, 0, none⟩)] w (RetV w (.bool (qM 0 m n h))) := by
  refine en0 10 Try.func49 ?_
  refine sg (co (Ev.assign (.c (v := .bool false) rfl)) ?_)
  refine nP (sg (co (fA 1 (.t rfl)) ?_))
  refine co (Ev.load ty51 (.t rfl) (ptsL (fun w I => hm.keep I.keeps) SMatch.l_in_)) ?_
  refine mv rfl (cons (callv en50 (.cons (.t rfl) (.cons (.t rfl) .nil)) (fun w I => within_ok _ _ w) ?_))
  refine asn rfl (nP (ret (done rfl (.tmp rfl .nil) (retE ?_))))
  rfl
theorem cl1_ok (m : SMatch) (n : Int) (h : SHeader) (p hp : Nat) (w : World) (hm : PtsTo eMatch w p 0 m) (hh : PtsTo eHeader w hp 0 h) : Calls Try.prog 51 #[I n, .pointer (some ⟨hp, 0, none⟩), .pointer (some ⟨p, 0, none⟩)] w (RetV w (.bool (qM 1 m n h))) := by
  refine en0 13 Try.func51 ?_
  refine sg (co (Ev.assign (.c (v := .bool false) rfl)) ?_)
  refine nP (seq (draw' (by kernel_rfl) ?_))
  refine tk 0 rfl (Ev.move (.t rfl)) ?_
  refine tk 1 rfl (Ev.nilCheck (.t rfl)) ?_
  refine tk 2 rfl (fA 34 (.t rfl)) ?_
  refine tk 3 rfl (Ev.load ty5 (.t rfl) (ptsL (fun w I => hh.keep I.keeps) SHeader.l_proto)) ?_
  refine tk 4 rfl (fA 39 (.t rfl)) ?_
  refine tk 5 rfl (Ev.load ty5 (.t rfl) (ptsL (fun w I => hm.keep I.keeps) SMatch.l_proto)) ?_
  refine tk 6 rfl (Ev.eql_u8 (.t rfl) (.t rfl)) ?_
  refine tk 7 rfl (Ev.assign (.t rfl)) ?_
  refine ovr (pN (ret (done rfl (.tmp rfl .nil) (retE ?_))))
  rfl
theorem cl2_ok (m : SMatch) (n : Int) (h : SHeader) (p hp : Nat) (w : World) (hm : PtsTo eMatch w p 0 m) (hh : PtsTo eHeader w hp 0 h) : Calls Try.prog 52 #[I n, .pointer (some ⟨hp, 0, none⟩), .pointer (some ⟨p, 0, none⟩)] w (RetV w (.bool (qM 2 m n h))) := by
  refine en0 13 Try.func52 ?_
  refine sg (co (Ev.assign (.c (v := .bool false) rfl)) ?_)
  refine nP (seq (draw' (by kernel_rfl) ?_))
  refine tk 0 rfl (fA 3 (.t rfl)) ?_
  refine tk 1 rfl (Ev.load ty53 (.t rfl) (ptsL (fun w I => hm.keep I.keeps) SMatch.l_src)) ?_
  refine tk 2 rfl (Ev.move (.t rfl)) ?_
  refine tk 3 rfl (Ev.nilCheck (.t rfl)) ?_
  refine tk 4 rfl (fA 0 (.t rfl)) ?_
  refine tk 5 rfl (Ev.load ty37 (.t rfl) (ptsL (fun w I => hh.keep I.keeps) SHeader.l_src)) ?_
  refine al1 6 rfl ((callv en11 (.cons (.t rfl) (.cons (.t rfl) .nil)) (fun w I => hasP_ok _ _ w) ?_))
  refine hdn (tk 7 rfl (Ev.assign (.t rfl)) ?_)
  refine ovr (pN (ret (done rfl (.tmp rfl .nil) (retE ?_))))
  rfl
theorem cl3_ok (m : SMatch) (n : Int) (h : SHeader) (p hp : Nat) (w : World) (hm : PtsTo eMatch w p 0 m) (hh : PtsTo eHeader w hp 0 h) : Calls Try.prog 53 #[I n, .pointer (some ⟨hp, 0, none⟩), .pointer (some ⟨p, 0, none⟩)] w (RetV w (.bool (qM 3 m n h))) := by
  refine en0 13 Try.func53 ?_
  refine sg (co (Ev.assign (.c (v := .bool false) rfl)) ?_)
  refine nP (seq (draw' (by kernel_rfl) ?_))
  refine tk 0 rfl (fA 21 (.t rfl)) ?_
  refine tk 1 rfl (Ev.load ty53 (.t rfl) (ptsL (fun w I => hm.keep I.keeps) SMatch.l_dst)) ?_
  refine tk 2 rfl (Ev.move (.t rfl)) ?_
  refine tk 3 rfl (Ev.nilCheck (.t rfl)) ?_
  refine tk 4 rfl (fA 17 (.t rfl)) ?_
  refine tk 5 rfl (Ev.load ty37 (.t rfl) (ptsL (fun w I => hh.keep I.keeps) SHeader.l_dst)) ?_
  refine al1 6 rfl ((callv en11 (.cons (.t rfl) (.cons (.t rfl) .nil)) (fun w I => hasP_ok _ _ w) ?_))
  refine hdn (tk 7 rfl (Ev.assign (.t rfl)) ?_)
  refine ovr (pN (ret (done rfl (.tmp rfl .nil) (retE ?_))))
  rfl
theorem cl4_ok (m : SMatch) (n : Int) (h : SHeader) (p hp : Nat) (w : World) (hm : PtsTo eMatch w p 0 m) (hh : PtsTo eHeader w hp 0 h) : Calls Try.prog 54 #[I n, .pointer (some ⟨hp, 0, none⟩), .pointer (some ⟨p, 0, none⟩)] w (RetV w (.bool (qM 4 m n h))) := by
  refine en0 14 Try.func54 ?_
  refine sg (co (Ev.assign (.c (v := .bool false) rfl)) ?_)
  refine nP (seq (draw' (by kernel_rfl) ?_))
  refine tk 0 rfl (fA 40 (.t rfl)) ?_
  refine tk 1 rfl (Ev.load ty51 (.t rfl) (ptsL (fun w I => hm.keep I.keeps) SMatch.l_srcPort)) ?_
  refine tk 2 rfl (Ev.move (.t rfl)) ?_
  refine tk 3 rfl (Ev.nilCheck (.t rfl)) ?_
  refine tk 4 rfl (fA 35 (.t rfl)) ?_
  refine tk 5 rfl (Ev.load ty38 (.t rfl) (ptsL (fun w I => hh.keep I.keeps) SHeader.l_srcPort)) ?_
  refine tk 6 rfl (Ev.conv_u16_i Try.underlying3 Try.underlying38 (.t rfl)) ?_
  refine al1 7 rfl ((callv en50 (.cons (.t rfl) (.cons (.t rfl) .nil)) (fun w I => within_ok _ _ w) ?_))
  refine hdn (tk 8 rfl (Ev.assign (.t rfl)) ?_)
  refine ovr (pN (ret (done rfl (.tmp rfl .nil) (retE ?_))))
  rfl
theorem cl5_ok (m : SMatch) (n : Int) (h : SHeader) (p hp : Nat) (w : World) (hm : PtsTo eMatch w p 0 m) (hh : PtsTo eHeader w hp 0 h) : Calls Try.prog 55 #[I n, .pointer (some ⟨hp, 0, none⟩), .pointer (some ⟨p, 0, none⟩)] w (RetV w (.bool (qM 5 m n h))) := by
  refine en0 14 Try.func55 ?_
  refine sg (co (Ev.assign (.c (v := .bool false) rfl)) ?_)
  refine nP (seq (draw' (by kernel_rfl) ?_))
  refine tk 0 rfl (fA 42 (.t rfl)) ?_
  refine tk 1 rfl (Ev.load ty51 (.t rfl) (ptsL (fun w I => hm.keep I.keeps) SMatch.l_dstPort)) ?_
  refine tk 2 rfl (Ev.move (.t rfl)) ?_
  refine tk 3 rfl (Ev.nilCheck (.t rfl)) ?_
  refine tk 4 rfl (fA 36 (.t rfl)) ?_
  refine tk 5 rfl (Ev.load ty38 (.t rfl) (ptsL (fun w I => hh.keep I.keeps) SHeader.l_dstPort)) ?_
  refine tk 6 rfl (Ev.conv_u16_i Try.underlying3 Try.underlying38 (.t rfl)) ?_
  refine al1 7 rfl ((callv en50 (.cons (.t rfl) (.cons (.t rfl) .nil)) (fun w I => within_ok _ _ w) ?_))
  refine hdn (tk 8 rfl (Ev.assign (.t rfl)) ?_)
  refine ovr (pN (ret (done rfl (.tmp rfl .nil) (retE ?_))))
  rfl
theorem en49 : Gx.Enters Try.prog 49 := Gx.Enters.mk' (by kernel_rfl)
theorem en51 : Gx.Enters Try.prog 51 := Gx.Enters.mk' (by kernel_rfl)
theorem en52 : Gx.Enters Try.prog 52 := Gx.Enters.mk' (by kernel_rfl)
theorem en53 : Gx.Enters Try.prog 53 := Gx.Enters.mk' (by kernel_rfl)
theorem en54 : Gx.Enters Try.prog 54 := Gx.Enters.mk' (by kernel_rfl)
theorem en55 : Gx.Enters Try.prog 55 := Gx.Enters.mk' (by kernel_rfl)
theorem cl_en : ∀ k, k < 6 → Gx.Enters Try.prog (fM k)
  | 0, _ => en49
  | 1, _ => en51
  | 2, _ => en52
  | 3, _ => en53
  | 4, _ => en54
  | 5, _ => en55
  | k + 6, h => absurd h (by omega)
theorem cl_ok : ∀ k, k < 6 → ∀ (m : SMatch) (n : Int) (h : SHeader) (p hp : Nat) (w : World) (hm : PtsTo eMatch w p 0 m) (hh : PtsTo eHeader w hp 0 h), Calls Try.prog (fM k) #[I n, .pointer (some ⟨hp, 0, none⟩), .pointer (some ⟨p, 0, none⟩)] w (RetV w (.bool (qM k m n h)))
  | 0, _ => cl0_ok
  | 1, _ => cl1_ok
  | 2, _ => cl2_ok
  | 3, _ => cl3_ok
  | 4, _ => cl4_ok
  | 5, _ => cl5_ok
  | k + 6, h => absurd h (by omega)
theorem ty137 : TyOK Try.prog 137 (ovE nilFn) := TyOK.mk' (by kernel_rfl) (by kernel_rfl)
theorem z137 : (Try.prog.info? 137).bind (·.zero) = some ((ovE nilFn).val (ovE nilFn).zero) := by kernel_rfl
theorem zb137 : (Try.prog.info? 137).map (fun i => (i.zero, i.bytes)) = some (some ((ovE nilFn).val (ovE nilFn).zero), 8) := by kernel_rfl
theorem zs137 : ((ovE nilFn).val (ovE nilFn).zero).cells.size = (ovE nilFn).size := by rw [Enc.cells_val, List.size_toArray, Enc.len]
theorem compiled_ok (m : SMatch) (w : World) : Calls Try.prog 32 #[eMatch.val m] w (RetN w (fun _ : OV × Nat => True) (fun x => x.1.v) (fun x => [OwnS x.1.v (ovE nilFn) (clos m x.2) 137, Var x.2 eMatch m 55])) := by
  refine en0 41 Try.func32 ?_
  refine sg (cons (box (E := eMatch) (.t rfl) (fun b1 => ?_)))
  refine co (Ev.assign (.c (v := (Go.Value.slice none 0 0)) rfl)) ?_
  refine nP (sg (co (Ev.assign (.c (v := (Go.Value.slice none 0 0)) rfl)) ?_))
  refine takeNil (ovE nilFn) 137 ?_
  refine nP (cut (X := OV × (List Nat)) (fun x : OV × (List Nat) => (x.2 = ksA (asksB m 1) 0 []) ∧ (x.2.length ≤ 1)) (fun x : OV × (List Nat) => [dz, (1, true, .pointer (some ⟨b1, 0, none⟩)), (3, true, x.1.v)]) (fun x : OV × (List Nat) => [OwnS x.1.v (ovE nilFn) (closL b1 x.2) 137, Var b1 eMatch m 55]) ?_ (fun x hx => ?_))
  · refine sg (co (Ev.ldx m ty55 (.t rfl) (Lens.id _)) ?_)
    refine cons (callv en48 (.cons (.t rfl) (.cons (.c (v := U8 1) rfl) .nil)) (fun w I => asks_ok _ _ w) ?_)
    refine nP ?_
    first | refine condD rfl (fun h0 => ?_) (fun h0 => ?_) | refine cond rfl (fun h0 => ?_) (fun h0 => ?_)
    · refine region (mv rfl (co (Ev.makeFunc (f := 49) (.cons (.t rfl) .nil)) ?_))
      refine cons (buildSlice (E := (ovE nilFn)) Try.underlying109 ty137 z137 (.cons (.t rfl) .nil) rfl rfl (fun v2 => ?_))
      refine cons (app (E := (ovE nilFn)) Try.underlying109 ty137 zb137 zs137 (.t rfl) (.t rfl) (fun v3 => ?_) (hby := ⟨by first | ((show _ ≤ 9223372036854775807); simp; done) | ((show _ ≤ 9223372036854775807); simp [closL]; omega), by first | (simp; done) | (simp [closL]; omega)⟩))
      refine asn rfl (nP (mt (X := OV × (List Nat)) (_, [] ++ [0]) ⟨?_, ?_⟩ (hL := (by first | exact List.Sublist.refl _ | (simp only [closL, List.map_append, List.map_cons, List.map_nil]; repeat first | exact List.Sublist.refl _ | apply List.Sublist.cons_cons | apply List.Sublist.cons)))))
      · try dsimp only
        unfold ksA; simp_all [asksB]
      · try dsimp only
        first | omega | (simp; omega) | simp
    · refine skip (pN (mt (X := OV × (List Nat)) (nilSl, []) ⟨?_, ?_⟩ (hL := (by first | exact List.Sublist.refl _ | (simp only [closL, List.map_append, List.map_cons, List.map_nil]; repeat first | exact List.Sublist.refl _ | apply List.Sublist.cons_cons | apply List.Sublist.cons)))))
      · try dsimp only
        unfold ksA; simp_all [asksB]
      · try dsimp only
        first | omega | (simp; omega) | simp
  obtain ⟨o1, l1⟩ := x
  obtain ⟨hl1, hn1⟩ : (l1 = ksA (asksB m 1) 0 []) ∧ (l1.length ≤ 1) := hx
  show Sat _ _ [dz, (1, true, .pointer (some ⟨b1, 0, none⟩)), (3, true, o1.v)] [OwnS o1.v (ovE nilFn) (closL b1 l1) 137, Var b1 eMatch m 55]
  refine cut (X := OV × (List Nat)) (fun x : OV × (List Nat) => (x.2 = ksA (asksB m 8) 1 l1) ∧ (x.2.length ≤ 2)) (fun x : OV × (List Nat) => [dz, (1, true, .pointer (some ⟨b1, 0, none⟩)), (3, true, x.1.v)]) (fun x : OV × (List Nat) => [OwnS x.1.v (ovE nilFn) (closL b1 x.2) 137, Var b1 eMatch m 55]) ?_ (fun x hx => ?_)
  · refine sg (co (Ev.ldx m ty55 (.t rfl) (Lens.id _)) ?_)
    refine cons (callv en48 (.cons (.t rfl) (.cons (.c (v := U8 8) rfl) .nil)) (fun w I => asks_ok _ _ w) ?_)
    refine nP ?_
    first | refine condD rfl (fun h1 => ?_) (fun h1 => ?_) | refine cond rfl (fun h1 => ?_) (fun h1 => ?_)
    · refine region (mv rfl (co (Ev.makeFunc (f := 51) (.cons (.t rfl) .nil)) ?_))
      refine cons (buildSlice (E := (ovE nilFn)) Try.underlying109 ty137 z137 (.cons (.t rfl) .nil) rfl rfl (fun v4 => ?_))
      refine cons (app (E := (ovE nilFn)) Try.underlying109 ty137 zb137 zs137 (.t rfl) (.t rfl) (fun v5 => ?_) (hby := ⟨by first | ((show _ ≤ 9223372036854775807); simp; done) | ((show _ ≤ 9223372036854775807); simp [closL]; omega), by first | (simp; done) | (simp [closL]; omega)⟩))
      refine asn rfl (nP (mt (X := OV × (List Nat)) (_, l1 ++ [1]) ⟨?_, ?_⟩ (hL := (by first | exact List.Sublist.refl _ | (simp only [closL, List.map_append, List.map_cons, List.map_nil]; repeat first | exact List.Sublist.refl _ | apply List.Sublist.cons_cons | apply List.Sublist.cons)))))
      · try dsimp only
        unfold ksA; simp_all [asksB]
      · try dsimp only
        first | omega | (simp; omega) | simp
    · refine skip (pN (mt (X := OV × (List Nat)) (o1, l1) ⟨?_, ?_⟩ (hL := (by first | exact List.Sublist.refl _ | (simp only [closL, List.map_append, List.map_cons, List.map_nil]; repeat first | exact List.Sublist.refl _ | apply List.Sublist.cons_cons | apply List.Sublist.cons)))))
      · try dsimp only
        unfold ksA; simp_all [asksB]
      · try dsimp only
        first | omega | (simp; omega) | simp
  obtain ⟨o2, l2⟩ := x
  obtain ⟨hl2, hn2⟩ : (l2 = ksA (asksB m 8) 1 l1) ∧ (l2.length ≤ 2) := hx
  show Sat _ _ [dz, (1, true, .pointer (some ⟨b1, 0, none⟩)), (3, true, o2.v)] [OwnS o2.v (ovE nilFn) (closL b1 l2) 137, Var b1 eMatch m 55]
  refine cut (X := OV × (List Nat)) (fun x : OV × (List Nat) => (x.2 = ksA (asksB m 2) 2 l2) ∧ (x.2.length ≤ 3)) (fun x : OV × (List Nat) => [dz, (1, true, .pointer (some ⟨b1, 0, none⟩)), (3, true, x.1.v)]) (fun x : OV × (List Nat) => [OwnS x.1.v (ovE nilFn) (closL b1 x.2) 137, Var b1 eMatch m 55]) ?_ (fun x hx => ?_)
  · refine sg (co (Ev.ldx m ty55 (.t rfl) (Lens.id _)) ?_)
    refine cons (callv en48 (.cons (.t rfl) (.cons (.c (v := U8 2) rfl) .nil)) (fun w I => asks_ok _ _ w) ?_)
    refine nP ?_
    first | refine condD rfl (fun h2 => ?_) (fun h2 => ?_) | refine cond rfl (fun h2 => ?_) (fun h2 => ?_)
    · refine region (mv rfl (co (Ev.makeFunc (f := 52) (.cons (.t rfl) .nil)) ?_))
      refine cons (buildSlice (E := (ovE nilFn)) Try.underlying109 ty137 z137 (.cons (.t rfl) .nil) rfl rfl (fun v6 => ?_))
      refine cons (app (E := (ovE nilFn)) Try.underlying109 ty137 zb137 zs137 (.t rfl) (.t rfl) (fun v7 => ?_) (hby := ⟨by first | ((show _ ≤ 9223372036854775807); simp; done) | ((show _ ≤ 9223372036854775807); simp [closL]; omega), by first | (simp; done) | (simp [closL]; omega)⟩))
      refine asn rfl (nP (mt (X := OV × (List Nat)) (_, l2 ++ [2]) ⟨?_, ?_⟩ (hL := (by first | exact List.Sublist.refl _ | (simp only [closL, List.map_append, List.map_cons, List.map_nil]; repeat first | exact List.Sublist.refl _ | apply List.Sublist.cons_cons | apply List.Sublist.cons)))))
      · try dsimp only
        unfold ksA; simp_all [asksB]
      · try dsimp only
        first | omega | (simp; omega) | simp
    · refine skip (pN (mt (X := OV × (List Nat)) (o2, l2) ⟨?_, ?_⟩ (hL := (by first | exact List.Sublist.refl _ | (simp only [closL, List.map_append, List.map_cons, List.map_nil]; repeat first | exact List.Sublist.refl _ | apply List.Sublist.cons_cons | apply List.Sublist.cons)))))
      · try dsimp only
        unfold ksA; simp_all [asksB]
      · try dsimp only
        first | omega | (simp; omega) | simp
  obtain ⟨o3, l3⟩ := x
  obtain ⟨hl3, hn3⟩ : (l3 = ksA (asksB m 2) 2 l2) ∧ (l3.length ≤ 3) := hx
  show Sat _ _ [dz, (1, true, .pointer (some ⟨b1, 0, none⟩)), (3, true, o3.v)] [OwnS o3.v (ovE nilFn) (closL b1 l3) 137, Var b1 eMatch m 55]
  refine cut (X := OV × (List Nat)) (fun x : OV × (List Nat) => (x.2 = ksA (asksB m 4) 3 l3) ∧ (x.2.length ≤ 4)) (fun x : OV × (List Nat) => [dz, (1, true, .pointer (some ⟨b1, 0, none⟩)), (3, true, x.1.v)]) (fun x : OV × (List Nat) => [OwnS x.1.v (ovE nilFn) (closL b1 x.2) 137, Var b1 eMatch m 55]) ?_ (fun x hx => ?_)
  · refine sg (co (Ev.ldx m ty55 (.t rfl) (Lens.id _)) ?_)
    refine cons (callv en48 (.cons (.t rfl) (.cons (.c (v := U8 4) rfl) .nil)) (fun w I => asks_ok _ _ w) ?_)
    refine nP ?_
    first | refine condD rfl (fun h3 => ?_) (fun h3 => ?_) | refine cond rfl (fun h3 => ?_) (fun h3 => ?_)
    · refine region (mv rfl (co (Ev.makeFunc (f := 53) (.cons (.t rfl) .nil)) ?_))
      refine cons (buildSlice (E := (ovE nilFn)) Try.underlying109 ty137 z137 (.cons (.t rfl) .nil) rfl rfl (fun v8 => ?_))
      refine cons (app (E := (ovE nilFn)) Try.underlying109 ty137 zb137 zs137 (.t rfl) (.t rfl) (fun v9 => ?_) (hby := ⟨by first | ((show _ ≤ 9223372036854775807); simp; done) | ((show _ ≤ 9223372036854775807); simp [closL]; omega), by first | (simp; done) | (simp [closL]; omega)⟩))
      refine asn rfl (nP (mt (X := OV × (List Nat)) (_, l3 ++ [3]) ⟨?_, ?_⟩ (hL := (by first | exact List.Sublist.refl _ | (simp only [closL, List.map_append, List.map_cons, List.map_nil]; repeat first | exact List.Sublist.refl _ | apply List.Sublist.cons_cons | apply List.Sublist.cons)))))
      · try dsimp only
        unfold ksA; simp_all [asksB]
      · try dsimp only
        first | omega | (simp; omega) | simp
    · refine skip (pN (mt (X := OV × (List Nat)) (o3, l3) ⟨?_, ?_⟩ (hL := (by first | exact List.Sublist.refl _ | (simp only [closL, List.map_append, List.map_cons, List.map_nil]; repeat first | exact List.Sublist.refl _ | apply List.Sublist.cons_cons | apply List.Sublist.cons)))))
      · try dsimp only
        unfold ksA; simp_all [asksB]
      · try dsimp only
        first | omega | (simp; omega) | simp
  obtain ⟨o4, l4⟩ := x
  obtain ⟨hl4, hn4⟩ : (l4 = ksA (asksB m 4) 3 l3) ∧ (l4.length ≤ 4) := hx
  show Sat _ _ [dz, (1, true, .pointer (some ⟨b1, 0, none⟩)), (3, true, o4.v)] [OwnS o4.v (ovE nilFn) (closL b1 l4) 137, Var b1 eMatch m 55]
  refine cut (X := OV × (List Nat)) (fun x : OV × (List Nat) => (x.2 = ksA (asksB m 16) 4 l4) ∧ (x.2.length ≤ 5)) (fun x : OV × (List Nat) => [dz, (1, true, .pointer (some ⟨b1, 0, none⟩)), (3, true, x.1.v)]) (fun x : OV × (List Nat) => [OwnS x.1.v (ovE nilFn) (closL b1 x.2) 137, Var b1 eMatch m 55]) ?_ (fun x hx => ?_)
  · refine sg (co (Ev.ldx m ty55 (.t rfl) (Lens.id _)) ?_)
    refine cons (callv en48 (.cons (.t rfl) (.cons (.c (v := U8 16) rfl) .nil)) (fun w I => asks_ok _ _ w) ?_)
    refine nP ?_
    first | refine condD rfl (fun h4 => ?_) (fun h4 => ?_) | refine cond rfl (fun h4 => ?_) (fun h4 => ?_)
    · refine region (mv rfl (co (Ev.makeFunc (f := 54) (.cons (.t rfl) .nil)) ?_))
      refine cons (buildSlice (E := (ovE nilFn)) Try.underlying109 ty137 z137 (.cons (.t rfl) .nil) rfl rfl (fun v10 => ?_))
      refine cons (app (E := (ovE nilFn)) Try.underlying109 ty137 zb137 zs137 (.t rfl) (.t rfl) (fun v11 => ?_) (hby := ⟨by first | ((show _ ≤ 9223372036854775807); simp; done) | ((show _ ≤ 9223372036854775807); simp [closL]; omega), by first | (simp; done) | (simp [closL]; omega)⟩))
      refine asn rfl (nP (mt (X := OV × (List Nat)) (_, l4 ++ [4]) ⟨?_, ?_⟩ (hL := (by first | exact List.Sublist.refl _ | (simp only [closL, List.map_append, List.map_cons, List.map_nil]; repeat first | exact List.Sublist.refl _ | apply List.Sublist.cons_cons | apply List.Sublist.cons)))))
      · try dsimp only
        unfold ksA; simp_all [asksB]
      · try dsimp only
        first | omega | (simp; omega) | simp
    · refine skip (pN (mt (X := OV × (List Nat)) (o4, l4) ⟨?_, ?_⟩ (hL := (by first | exact List.Sublist.refl _ | (simp only [closL, List.map_append, List.map_cons, List.map_nil]; repeat first | exact List.Sublist.refl _ | apply List.Sublist.cons_cons | apply List.Sublist.cons)))))
      · try dsimp only
        unfold ksA; simp_all [asksB]
      · try dsimp only
        first | omega | (simp; omega) | simp
  obtain ⟨o5, l5⟩ := x
  obtain ⟨hl5, hn5⟩ : (l5 = ksA (asksB m 16) 4 l4) ∧ (l5.length ≤ 5) := hx
  show Sat _ _ [dz, (1, true, .pointer (some ⟨b1, 0, none⟩)), (3, true, o5.v)] [OwnS o5.v (ovE nilFn) (closL b1 l5) 137, Var b1 eMatch m 55]
  refine cut (X := OV × (List Nat)) (fun x : OV × (List Nat) => (x.2 = ksA (asksB m 32) 5 l5) ∧ (x.2.length ≤ 6)) (fun x : OV × (List Nat) => [dz, (1, true, .pointer (some ⟨b1, 0, none⟩)), (3, true, x.1.v)]) (fun x : OV × (List Nat) => [OwnS x.1.v (ovE nilFn) (closL b1 x.2) 137, Var b1 eMatch m 55]) ?_ (fun x hx => ?_)
  · refine sg (co (Ev.ldx m ty55 (.t rfl) (Lens.id _)) ?_)
    refine cons (callv en48 (.cons (.t rfl) (.cons (.c (v := U8 32) rfl) .nil)) (fun w I => asks_ok _ _ w) ?_)
    refine nP ?_
    first | refine condD rfl (fun h5 => ?_) (fun h5 => ?_) | refine cond rfl (fun h5 => ?_) (fun h5 => ?_)
    · refine region (mv rfl (co (Ev.makeFunc (f := 55) (.cons (.t rfl) .nil)) ?_))
      refine cons (buildSlice (E := (ovE nilFn)) Try.underlying109 ty137 z137 (.cons (.t rfl) .nil) rfl rfl (fun v12 => ?_))
      refine cons (app (E := (ovE nilFn)) Try.underlying109 ty137 zb137 zs137 (.t rfl) (.t rfl) (fun v13 => ?_) (hby := ⟨by first | ((show _ ≤ 9223372036854775807); simp; done) | ((show _ ≤ 9223372036854775807); simp [closL]; omega), by first | (simp; done) | (simp [closL]; omega)⟩))
      refine asn rfl (nP (mt (X := OV × (List Nat)) (_, l5 ++ [5]) ⟨?_, ?_⟩ (hL := (by first | exact List.Sublist.refl _ | (simp only [closL, List.map_append, List.map_cons, List.map_nil]; repeat first | exact List.Sublist.refl _ | apply List.Sublist.cons_cons | apply List.Sublist.cons)))))
      · try dsimp only
        unfold ksA; simp_all [asksB]
      · try dsimp only
        first | omega | (simp; omega) | simp
    · refine skip (pN (mt (X := OV × (List Nat)) (o5, l5) ⟨?_, ?_⟩ (hL := (by first | exact List.Sublist.refl _ | (simp only [closL, List.map_append, List.map_cons, List.map_nil]; repeat first | exact List.Sublist.refl _ | apply List.Sublist.cons_cons | apply List.Sublist.cons)))))
      · try dsimp only
        unfold ksA; simp_all [asksB]
      · try dsimp only
        first | omega | (simp; omega) | simp
  obtain ⟨o6, l6⟩ := x
  obtain ⟨hl6, hn6⟩ : (l6 = ksA (asksB m 32) 5 l5) ∧ (l6.length ≤ 6) := hx
  show Sat _ _ [dz, (1, true, .pointer (some ⟨b1, 0, none⟩)), (3, true, o6.v)] [OwnS o6.v (ovE nilFn) (closL b1 l6) 137, Var b1 eMatch m 55]
  refine sg (mv rfl (asn rfl (nP (ret (done rfl (.tmp rfl .nil) (fun w I => ?_))))))
  exact retN (o6, b1) trivial rfl (by unfold clos ks; rw [← hl1, ← hl2, ← hl3, ← hl4, ← hl5, ← hl6]; exact List.Sublist.refl _) w I
theorem clos_len (m : SMatch) (p : Nat) : (clos m p).length = (ks m).length := by simp [clos, closL]
theorem clos_get (m : SMatch) (p : Nat) (i : Nat) (h : i < (ks m).length) : (clos m p).getD i nilFn = clo (fM ((ks m).getD i 0)) [.pointer (some ⟨p, 0, none⟩)] := by
  simp [clos, closL, List.getD, h]
theorem getD_mem {α : Type} (l : List α) (i : Nat) (d : α) (h : i < l.length) : l.getD i d ∈ l := by simp [List.getD, h]
theorem meetsL_ok (u : Value) (m : SMatch) (n : Int) (h : SHeader) (p hp : Nat) (w : World) (hs : IsSl (ovE nilFn) w u (clos m p)) (hm : PtsTo eMatch w p 0 m) (hh : PtsTo eHeader w hp 0 h) : Calls Try.prog 31 #[u, I n, .pointer (some ⟨hp, 0, none⟩)] w (RetV w (.bool (metB m n h))) := by
  have hle := hs.le
  have hcl := clos_len m p
  refine en0 21 Try.func31 ?_
  refine sg (co (Ev.assign (.c (v := .bool false) rfl)) ?_)
  refine nP (seq (sg (mv rfl (co (Ev.len Try.underlying109 (.t rfl) (by first | exact isSl_own (by repeat first | exact mH | apply mT | apply mA) | exact fun w I => IsSl.keep0 (by assumption) I.keeps)) ?_))))
  refine co (Ev.move (.c (v := I 0) rfl)) ?_
  refine nP (block (lp (X := Int) (fun x : Int => (0 ≤ x ∧ x ≤ (clos m p).length) ∧ (((ks m).take x.toNat).all (fun k => qM k m n h) = true)) (fun x : Int => [dz, (1, true, I n), (2, true, .pointer (some ⟨hp, 0, none⟩)), (9, true, u), (10, true, I (clos m p).length), (11, true, I x)]) (fun x : Int => []) (fun x : Int => ((clos m p).length - x).toNat) (0) ⟨?_, ?_⟩ (fun x hx => ?_)))
  · omega
  · rfl
  obtain ⟨i, rfl⟩ : ∃ y, y = x := ⟨x, rfl⟩
  obtain ⟨hi, hq⟩ : (0 ≤ i ∧ i ≤ (clos m p).length) ∧ (((ks m).take i.toNat).all (fun k => qM k m n h) = true) := hx
  show Sat _ _ [dz, (1, true, I n), (2, true, .pointer (some ⟨hp, 0, none⟩)), (9, true, u), (10, true, I (clos m p).length), (11, true, I i)] []
  refine sg (co (Ev.lss_i (.t rfl) (.t rfl)) ?_)
  refine nP (seq ?_)
  first | refine condD rfl (fun hlt => ?_) (fun hge => ?_) | refine cond rfl (fun hlt => ?_) (fun hge => ?_)
  · try simp only [Gx.nb] at hlt
    refine skip (pN (seq (block (sg (co (Ev.indexAddr Try.underlying109 ty137 (.t rfl) (.t rfl) (by first | exact isSl_own (by repeat first | exact mH | apply mT | apply mA) | exact fun w I => IsSl.keep0 (by assumption) I.keeps) (fun _ => by omega)) ?_)))))
    refine co (Ev.loadS0 ty137 (.t rfl) (by first | exact isSl_own (by repeat first | exact mH | apply mT | apply mA) | exact fun w I => IsSl.keep0 (by assumption) I.keeps) (fun _ => by omega)) ?_
    refine asn rfl (nP (sg ?_))
    have hil : i.toNat < (ks m).length := by omega
    have hk6 := ks_lt (getD_mem (ks m) i.toNat 0 hil)
    refine co (Ev.to (v' := (clo (fM ((ks m).getD i.toNat 0)) [.pointer (some ⟨p, 0, none⟩)]).v) (Ev.move (.t rfl)) (by show ((clos m p).getD i.toNat nilFn).v = _; rw [clos_get m p _ hil])) ?_
    refine mv rfl (mv rfl (cons (callcv (.t rfl) (cl_en _ hk6) (.cons (.t rfl) (.cons (.t rfl) .nil)) (fun w I => cl_ok _ hk6 m n h p hp w (hm.keep I.keeps) (hh.keep I.keeps)) ?_)))
    refine co (Ev.not (.t rfl)) ?_
    refine nP ?_
    first | refine condD rfl (fun h1 => ?_) (fun h1 => ?_) | refine cond rfl (fun h1 => ?_) (fun h1 => ?_)
    · refine sg (co (Ev.assign (.c (v := .bool false) rfl)) ?_)
      refine nP (ret (bR (pR (pR (bR (pR (done rfl (.tmp rfl .nil) (retE ?_))))))))
      refine bX2 ?_
      symm
      rw [Bool.eq_false_iff]
      intro hall
      have h2 := List.all_eq_true.1 hall _ (getD_mem (ks m) i.toNat 0 hil)
      rw [h2] at h1
      simp at h1
    · refine skip (bN (pN (region (co (Ev.add_i (.t rfl) (.c (v := I 1) rfl) (fun _ => by omega)) ?_))))
      refine mv rfl (nP (nx (X := Int) (i + 1) ⟨?_, ?_⟩ ?_))
      · try dsimp only
        omega
      · try dsimp only
        rw [take_snoc (ks m) i hi.1 (by omega) 0, List.all_append, hq]
        simpa using h1
      · try dsimp only
        omega
  · try simp only [Gx.nb] at hge
    refine exit (pX (pX (bX (pN (sg (co (Ev.assign (.c (v := .bool true) rfl)) ?_))))))
    refine nP (ret (done rfl (.tmp rfl .nil) (retE ?_)))
    refine bX2 ?_
    rw [List.take_of_length_le (by omega)] at hq
    unfold metB
    rw [hq]
theorem en32 : Gx.Enters Try.prog 32 := Gx.Enters.mk' (by kernel_rfl)
theorem en31 : Gx.Enters Try.prog 31 := Gx.Enters.mk' (by kernel_rfl)
theorem metB_eq (m : SMatch) (n : Int) (h : SHeader) : metB m n h = ((!asksB m 1 || withinB m.in_ n) && (!asksB m 8 || decide (h.proto = m.proto)) && (!asksB m 2 || hasP m.src h.src) && (!asksB m 4 || hasP m.dst h.dst) && (!asksB m 16 || withinB m.srcPort h.srcPort.toNat) && (!asksB m 32 || withinB m.dstPort h.dstPort.toNat)) := by
  unfold metB ks
  simp only [all_ksA, List.all_nil, Bool.true_and]
  rfl
structure SRuleRules where
  matches_ : OV
  asked : OV
def SRuleRules.to : (OV × OV) → SRuleRules := fun x => ⟨x.1, x.2⟩
def SRuleRules.of : SRuleRules → (OV × OV) := fun x => (x.matches_, x.asked)
def eRuleRules : Enc SRuleRules := isoE (prodE (ovE nilSl) (ovE nilSl)) SRuleRules.to SRuleRules.of
def SRuleRules.l_matches_ : Lens eRuleRules (ovE nilSl) 0 := lIso _ SRuleRules.to SRuleRules.of (fun _ => rfl) (lFst (ovE nilSl) (ovE nilSl))
@[simp] theorem SRuleRules.get_matches_ (x : SRuleRules) : SRuleRules.l_matches_.get x = x.matches_ := rfl
@[simp] theorem SRuleRules.set_matches_ (x : SRuleRules) (y : OV) : SRuleRules.l_matches_.set x y = { x with matches_ := y } := rfl
def SRuleRules.l_asked : Lens eRuleRules (ovE nilSl) 1 := lIso _ SRuleRules.to SRuleRules.of (fun _ => rfl) (Lens.comp (lSnd (ovE nilSl) (ovE nilSl)) (Lens.id (ovE nilSl)))
@[simp] theorem SRuleRules.get_asked (x : SRuleRules) : SRuleRules.l_asked.get x = x.asked := rfl
@[simp] theorem SRuleRules.set_asked (x : SRuleRules) (y : OV) : SRuleRules.l_asked.set x y = { x with asked := y } := rfl
def RulesAt (w : World) (b : Nat) (l : List SMatch) : Prop := ∃ (mo ao : OV) (os : List OV) (bs : Nat → Nat), PtsTo eRuleRules w b 0 ⟨mo, ao⟩ ∧ IsSl eMatch w mo.v l ∧ IsSl (ovE nilSl) w ao.v os ∧ os.length = l.length ∧ ∀ k, k < l.length → IsSl (ovE nilFn) w (os.getD k nilSl).v (clos (l.getD k eMatch.zero) (bs k)) ∧ PtsTo eMatch w (bs k) 0 (l.getD k eMatch.zero)
theorem RulesAt.keep {w w' : World} {b : Nat} {l : List SMatch} (h : RulesAt w b l) (k : Keeps Nope w w') : RulesAt w' b l := by
  obtain ⟨mo, ao, os, bs, h1, h2, h3, h4, h5⟩ := h
  exact ⟨mo, ao, os, bs, h1.keep k, h2.keep0 k, h3.keep0 k, h4, fun j hj => ⟨(h5 j hj).1.keep0 k, (h5 j hj).2.keep k⟩⟩
def compE (l : List SMatch) : Int := bif decide (256 < l.length) then 4 else bif l.all okM then 0 else 190
def ptrO (l : List SMatch) (b : Nat) : Option Addr := bif decide (compE l = 0) then some ⟨b, 0, none⟩ else none
def ptrC (l : List SMatch) (b : Nat) : Value := .pointer (ptrO l b)
theorem ptrO_ok {l : List SMatch} (b : Nat) (h : compE l = 0) : ptrO l b = some ⟨b, 0, none⟩ := by
  unfold ptrO
  simp [h]
def CompJ (l : List SMatch) (x : Nat × List Res) : Prop := compE l = 0 → ∀ w, (∀ r ∈ x.2, r.A w) → RulesAt w x.1 l
def compV (l : List SMatch) (x : Nat × List Res) : Value := .tuple #[ptrC l x.1, I (compE l)]
theorem all_snoc (l : List SMatch) (i : Int) (h0 : 0 ≤ i) (h1 : i < l.length) (ha : (l.take i.toNat).all okM = true) (hi : okM (l.getD i.toNat eMatch.zero) = true) : (l.take (i + 1).toNat).all okM = true := by
  rw [take_snoc l i h0 h1 eMatch.zero, List.all_append, ha]
  simpa using hi
theorem not_all (l : List SMatch) (i : Nat) (h1 : i < l.length) (hi : okM (l.getD i eMatch.zero) = false) : l.all okM = false := by
  rw [Bool.eq_false_iff]
  intro h
  have := List.all_eq_true.1 h _ (getD_mem l i eMatch.zero h1)
  rw [hi] at this
  cases this
theorem z118 : (Try.prog.info? 118).bind (·.zero) = some (eRuleRules.val eRuleRules.zero) := by kernel_rfl
theorem z55 : (Try.prog.info? 55).bind (·.zero) = some (eMatch.val eMatch.zero) := by kernel_rfl
theorem ty81 : TyOK Try.prog 81 (ovE nilSl) := TyOK.mk' (by kernel_rfl) (by kernel_rfl)
theorem zb55 : (Try.prog.info? 55).map (fun i => (i.zero, i.bytes)) = some (some (eMatch.val eMatch.zero), 88) := by kernel_rfl
theorem zs55 : (eMatch.val eMatch.zero).cells.size = eMatch.size := by rw [Enc.cells_val, List.size_toArray, Enc.len]
theorem ty116 : TyOK Try.prog 116 (ovE nilSl) := TyOK.mk' (by kernel_rfl) (by kernel_rfl)
theorem ty109 : TyOK Try.prog 109 (ovE nilSl) := TyOK.mk' (by kernel_rfl) (by kernel_rfl)
theorem z109 : (Try.prog.info? 109).bind (·.zero) = some ((ovE nilSl).val (ovE nilSl).zero) := by kernel_rfl
theorem zb109 : (Try.prog.info? 109).map (fun i => (i.zero, i.bytes)) = some (some ((ovE nilSl).val (ovE nilSl).zero), 24) := by kernel_rfl
theorem zs109 : ((ovE nilSl).val (ovE nilSl).zero).cells.size = (ovE nilSl).size := by rw [Enc.cells_val, List.size_toArray, Enc.len]
theorem compile_ok (u : Value) (l : List SMatch) (w : World) (hl : IsSl eMatch w u l) : Calls Try.prog 20 #[u] w (RetN w (CompJ l) (compV l) (fun x => x.2)) := by
  have hle := hl.le
  refine en0 47 Try.func20 ?_
  refine sg (co (Ev.assign (.c (v := (Go.Value.pointer none)) rfl)) ?_)
  refine co (Ev.assign (.c (v := I 0) rfl)) ?_
  refine nP (seq (sg (mv rfl (co (Ev.len Try.underlying81 (.t rfl) (by first | exact isSl_own (by repeat first | exact mH | apply mT | apply mA) | exact fun w I => IsSl.keep0 (by assumption) I.keeps)) ?_))))
  refine co (Ev.gtr_i (.t rfl) (.c (v := I 256) rfl)) ?_
  refine nP ?_
  first | refine condD rfl (fun hbig => ?_) (fun hsmall => ?_) | refine cond rfl (fun hbig => ?_) (fun hsmall => ?_)
  · try simp only [Gx.nb] at hbig
    refine sg (co (Ev.assign (.c (v := (Go.Value.pointer none)) rfl)) ?_)
    refine co (Ev.assign (.c (v := I 4) rfl)) ?_
    refine nP (ret (pR (done rfl (.tmp rfl (.tmp rfl .nil)) (fun w I => ?_))))
    have hc : compE l = 4 := by unfold compE; rw [decide_eq_true (by omega)]; rfl
    exact retN (0, []) (fun h => by rw [hc] at h; cases h) (by unfold compV ptrC ptrO; rw [hc]; rfl) (List.nil_sublist _) w I
  · try simp only [Gx.nb] at hsmall
    refine skip (pN (sg (co (Ev.buildS (fs := _) (places := [(0, 1), (1, 1)]) z118 rfl Try.underlying118 (by kernel_rfl) .nil Fills.nil) ?_)))
    refine cons (box (E := eRuleRules) (.t rfl) (fun b1 => ?_))
    refine asn rfl (nP (seq (sg (mv rfl (co (Ev.len Try.underlying81 (.t rfl) (by first | exact isSl_own (by repeat first | exact mH | apply mT | apply mA) | exact fun w I => IsSl.keep0 (by assumption) I.keeps)) ?_)))))
    refine co (Ev.move (.c (v := I 0) rfl)) ?_
    refine nP (block (takeNil (ovE nilSl) 109 ?_))
    refine takeNil eMatch 55 ?_
    refine lp (X := Int × OV × OV × (List OV) × (List Res) × (Nat → Nat)) (fun x : Int × OV × OV × (List OV) × (List Res) × (Nat → Nat) => (0 ≤ x.1 ∧ x.1 ≤ l.length) ∧ ((x.2.2.2.1.length : Int) = x.1) ∧ ((l.take x.1.toNat).all okM = true) ∧ (∀ w1 : World, (∀ r ∈ x.2.2.2.2.1, r.A w1) → ∀ q : Nat, (q : Int) < x.1 → IsSl (ovE nilFn) w1 (x.2.2.2.1.getD q nilSl).v (clos (l.getD q eMatch.zero) (x.2.2.2.2.2 q)) ∧ PtsTo eMatch w1 (x.2.2.2.2.2 q) 0 (l.getD q eMatch.zero))) (fun x : Int × OV × OV × (List OV) × (List Res) × (Nat → Nat) => [dz, (4, true, .pointer (some ⟨b1, 0, none⟩)), (13, true, u), (14, true, I l.length), (15, true, I x.1)]) (fun x : Int × OV × OV × (List OV) × (List Res) × (Nat → Nat) => (x.2.2.2.2.1 ++ [OwnS x.2.1.v eMatch (l.take x.1.toNat) 55, OwnS x.2.2.1.v (ovE nilSl) x.2.2.2.1 109, Var b1 eRuleRules ⟨x.2.1, x.2.2.1⟩ 118])) (fun x : Int × OV × OV × (List OV) × (List Res) × (Nat → Nat) => (l.length - x.1).toNat) (0, nilSl, nilSl, [], [], fun _ => 0) ⟨?_, ?_, ?_, ?_⟩ (fun x hx => ?_)
    · omega
    · rfl
    · rfl
    · intro w1 _ q hq; exact absurd hq (by show ¬ (q : Int) < 0; omega)
    obtain ⟨i, mo, ao, os, Rs, bs⟩ := x
    obtain ⟨hi, hos, hok, hR⟩ : (0 ≤ i ∧ i ≤ l.length) ∧ ((os.length : Int) = i) ∧ ((l.take i.toNat).all okM = true) ∧ (∀ w1 : World, (∀ r ∈ Rs, r.A w1) → ∀ q : Nat, (q : Int) < i → IsSl (ovE nilFn) w1 (os.getD q nilSl).v (clos (l.getD q eMatch.zero) (bs q)) ∧ PtsTo eMatch w1 (bs q) 0 (l.getD q eMatch.zero)) := hx
    show Sat _ _ [dz, (4, true, .pointer (some ⟨b1, 0, none⟩)), (13, true, u), (14, true, I l.length), (15, true, I i)] (Rs ++ [OwnS mo.v eMatch (l.take i.toNat) 55, OwnS ao.v (ovE nilSl) os 109, Var b1 eRuleRules ⟨mo, ao⟩ 118])
    refine sg (co (Ev.lss_i (.t rfl) (.t rfl)) ?_)
    refine nP (seq ?_)
    first | refine condD rfl (fun hlt => ?_) (fun hge => ?_) | refine cond rfl (fun hlt => ?_) (fun hge => ?_)
    · try simp only [Gx.nb] at hlt
      refine skip (pN (seq (block (sg (co (Ev.indexAddr Try.underlying81 ty55 (.t rfl) (.t rfl) (by first | exact isSl_own (by repeat first | exact mH | apply mT | apply mA) | exact fun w I => IsSl.keep0 (by assumption) I.keeps) (fun _ => by omega)) ?_)))))
      refine co (Ev.loadS0 ty55 (.t rfl) (by first | exact isSl_own (by repeat first | exact mH | apply mT | apply mA) | exact fun w I => IsSl.keep0 (by assumption) I.keeps) (fun _ => by omega)) ?_
      refine cons (alloc z55 (fun b2 => ?_))
      refine cons (stv ty55 (Lens.id _) (.t rfl) (.t rfl) ?_)
      refine nP (seq (sg (co (Ev.ldv ty55 (.t rfl) (Lens.id _)) ?_)))
      refine cons (callv en30 (.cons (.t rfl) .nil) (fun w I => check_ok _ w) ?_)
      refine asn rfl (nP (sg (mv rfl (co (Ev.neq_i (.t rfl) (.c (v := I 0) rfl)) ?_))))
      refine nP ?_
      first | refine condD rfl (fun h2 => ?_) (fun h2 => ?_) | refine cond rfl (fun h2 => ?_) (fun h2 => ?_)
      · have hbad : okM (l.getD i.toNat eMatch.zero) = false := by
          have h3 : decide (ckM (l.getD i.toNat eMatch.zero) = 0) = false := by simpa using h2
          rwa [ckM_zero] at h3
        refine sg (mv rfl (co (Ev.assign (.c (v := (Go.Value.pointer none)) rfl)) ?_))
        refine asn rfl (nP (ret (pR (bR (pR (pR (bR (pR (done rfl (.tmp rfl (.tmp rfl .nil)) (fun w I => ?_))))))))))
        have hc : compE l = 190 := by unfold compE; rw [decide_eq_false (by omega), not_all l i.toNat (by omega) hbad]; rfl
        exact retN (0, []) (fun h => by rw [hc] at h; cases h) (by unfold compV ptrC ptrO; rw [hc]; show tupV [.pointer none, Go.Gx.I (ckM (l.getD i.toNat eMatch.zero))] = _; unfold ckM; rw [hbad]; rfl) (List.nil_sublist _) w I
      · have hokm : okM (l.getD i.toNat eMatch.zero) = true := by
          have h3 : decide (ckM (l.getD i.toNat eMatch.zero) = 0) = true := by simpa using h2
          rwa [ckM_zero] at h3
        refine skip (pN (seq (draw [Var b2 eMatch (l.getD i.toNat eMatch.zero) 55] (by kernel_rfl) ?_)))
        refine tk 0 rfl (Ev.move (.t rfl)) ?_
        refine tk 1 rfl (Ev.move (.t rfl)) ?_
        refine tk 2 rfl (Ev.nilCheck (.t rfl)) ?_
        refine tk 3 rfl (fA 0 (.t rfl)) ?_
        refine tk 5 rfl (Ev.ldv ty55 (.t rfl) (Lens.id _)) ?_
        refine all [4, 6] (by kernel_rfl) (by decide) (.cons rfl ?_ (.cons rfl ?_ .nil))
        · refine (opv (Ev.ldv ty81 (.t rfl) SRuleRules.l_matches_) ?_)
          refine hdn (al1 6 rfl ((buildSlice (E := eMatch) Try.underlying81 ty55 z55 (.cons (.t rfl) .nil) rfl rfl (fun v3 => ?_))))
          refine hdn (al1 7 rfl ((app (E := eMatch) Try.underlying81 ty55 zb55 zs55 (.t rfl) (.t rfl) (fun v4 => ?_) (hby := ⟨by (show _ ≤ 9223372036854775807); first | omega | (simp; done) | (simp; omega), by first | omega | (simp; done) | (simp; omega)⟩))))
          refine hdn (tk 8 rfl (Ev.nilCheck (.t rfl)) ?_)
          refine tk 9 rfl (fA 0 (.t rfl)) ?_
          refine al1 10 rfl ((stv ty81 SRuleRules.l_matches_ (.t rfl) (.t rfl) ?_))
          refine hdn (ovr (pN (draw [Var b2 eMatch (l.getD i.toNat eMatch.zero) 55] (by kernel_rfl) ?_)))
          refine tk 0 rfl (Ev.move (.t rfl)) ?_
          refine tk 1 rfl (Ev.move (.t rfl)) ?_
          refine tk 2 rfl (Ev.nilCheck (.t rfl)) ?_
          refine tk 3 rfl (fA 1 (.t rfl)) ?_
          refine tk 5 rfl (Ev.ldv ty55 (.t rfl) (Lens.id _)) ?_
          refine all [4, 6] (by kernel_rfl) (by decide) (.cons rfl ?_ (.cons rfl ?_ .nil))
          · refine (opv (Ev.ldv ty116 (.t rfl) SRuleRules.l_asked) ?_)
            refine hdn (al1 6 rfl ((calln (X := OV × Nat) (fun _ => True) (fun x => x.1.v) (fun x => [OwnS x.1.v (ovE nilFn) (clos (l.getD i.toNat eMatch.zero) x.2) 137, Var x.2 eMatch (l.getD i.toNat eMatch.zero) 55]) en32 (.cons (.t rfl) .nil) (fun w I => compiled_ok _ w) (fun x1 _ => ?_))))
            refine hdn (al1 7 rfl ((buildSlice (E := (ovE nilSl)) Try.underlying116 ty109 z109 (.cons (.t rfl) .nil) rfl rfl (fun v5 => ?_))))
            refine hdn (al1 8 rfl ((app (E := (ovE nilSl)) Try.underlying116 ty109 zb109 zs109 (.t rfl) (.t rfl) (fun v6 => ?_) (hby := ⟨by (show _ ≤ 9223372036854775807); first | omega | (simp; done) | (simp; omega), by first | omega | (simp; done) | (simp; omega)⟩))))
            refine hdn (tk 9 rfl (Ev.nilCheck (.t rfl)) ?_)
            refine tk 10 rfl (fA 1 (.t rfl)) ?_
            refine al1 11 rfl ((stv ty116 SRuleRules.l_asked (.t rfl) (.t rfl) ?_))
            refine hdn (ovr (bN (pN (region (co (Ev.add_i (.t rfl) (.c (v := I 1) rfl) (fun _ => by omega)) ?_)))))
            refine mv rfl (nP (nx (X := Int × OV × OV × (List OV) × (List Res) × (Nat → Nat)) (i + 1, _, _, os ++ [x1.1], OwnS x1.1.v (ovE nilFn) (clos (l.getD i.toNat eMatch.zero) x1.2) 137 :: Var x1.2 eMatch (l.getD i.toNat eMatch.zero) 55 :: Rs, fun q => if q = i.toNat then x1.2 else bs q) ⟨?_, ?_, ?_, ?_⟩ ?_ (hL := (by dsimp only; rw [take_snoc l i hi.1 (by omega) eMatch.zero]; repeat first | exact List.Sublist.refl _ | apply List.Sublist.cons_cons | apply List.Sublist.cons))))
            · try dsimp only
              omega
            · try dsimp only
              simp; omega
            · try dsimp only
              exact all_snoc l i hi.1 (by omega) hok hokm
            · try dsimp only
              intro w1 hw q hq
              by_cases e : q = i.toNat
              · subst e
                have e1 : (os ++ [x1.1]).getD i.toNat nilSl = x1.1 := by
                  have : os.length = i.toNat := by omega
                  simp [List.getD, ← this]
                rw [if_pos rfl]
                show IsSl _ _ ((os ++ [x1.1]).getD i.toNat nilSl).v _ ∧ _
                rw [e1]
                exact ⟨IsSl.of_own (hw _ List.mem_cons_self), pts_of_block (hw _ (List.mem_cons_of_mem _ List.mem_cons_self))⟩
              · have e1 : (os ++ [x1.1]).getD q nilSl = os.getD q nilSl := by
                  have : q < os.length := by omega
                  simp [List.getD, List.getElem?_append, this]
                rw [if_neg e]
                show IsSl _ _ ((os ++ [x1.1]).getD q nilSl).v _ ∧ _
                rw [e1]
                exact hR w1 (fun r hr => hw r (List.mem_cons_of_mem _ (List.mem_cons_of_mem _ hr))) q (by omega)
            · try dsimp only
              omega
          · refine (calln (X := OV × Nat) (fun _ => True) (fun x => x.1.v) (fun x => [OwnS x.1.v (ovE nilFn) (clos (l.getD i.toNat eMatch.zero) x.2) 137, Var x.2 eMatch (l.getD i.toNat eMatch.zero) 55]) en32 (.cons (.t rfl) .nil) (fun w I => compiled_ok _ w) (fun x1 _ => ?_))
            refine hdn (all [4, 7] (by kernel_rfl) (by decide) (.cons rfl ?_ (.cons rfl ?_ .nil)))
            · refine (opv (Ev.ldv ty116 (.t rfl) SRuleRules.l_asked) ?_)
              refine hdn (al1 7 rfl ((buildSlice (E := (ovE nilSl)) Try.underlying116 ty109 z109 (.cons (.t rfl) .nil) rfl rfl (fun v7 => ?_))))
              refine hdn (al1 8 rfl ((app (E := (ovE nilSl)) Try.underlying116 ty109 zb109 zs109 (.t rfl) (.t rfl) (fun v8 => ?_) (hby := ⟨by (show _ ≤ 9223372036854775807); first | omega | (simp; done) | (simp; omega), by first | omega | (simp; done) | (simp; omega)⟩))))
              refine hdn (tk 9 rfl (Ev.nilCheck (.t rfl)) ?_)
              refine tk 10 rfl (fA 1 (.t rfl)) ?_
              refine al1 11 rfl ((stv ty116 SRuleRules.l_asked (.t rfl) (.t rfl) ?_))
              refine hdn (ovr (bN (pN (region (co (Ev.add_i (.t rfl) (.c (v := I 1) rfl) (fun _ => by omega)) ?_)))))
              refine mv rfl (nP (nx (X := Int × OV × OV × (List OV) × (List Res) × (Nat → Nat)) (i + 1, _, _, os ++ [x1.1], OwnS x1.1.v (ovE nilFn) (clos (l.getD i.toNat eMatch.zero) x1.2) 137 :: Var x1.2 eMatch (l.getD i.toNat eMatch.zero) 55 :: Rs, fun q => if q = i.toNat then x1.2 else bs q) ⟨?_, ?_, ?_, ?_⟩ ?_ (hL := (by dsimp only; rw [take_snoc l i hi.1 (by omega) eMatch.zero]; repeat first | exact List.Sublist.refl _ | apply List.Sublist.cons_cons | apply List.Sublist.cons))))
              · try dsimp only
                omega
              · try dsimp only
                simp; omega
              · try dsimp only
                exact all_snoc l i hi.1 (by omega) hok hokm
              · try dsimp only
                intro w1 hw q hq
                by_cases e : q = i.toNat
                · subst e
                  have e1 : (os ++ [x1.1]).getD i.toNat nilSl = x1.1 := by
                    have : os.length = i.toNat := by omega
                    simp [List.getD, ← this]
                  rw [if_pos rfl]
                  show IsSl _ _ ((os ++ [x1.1]).getD i.toNat nilSl).v _ ∧ _
                  rw [e1]
                  exact ⟨IsSl.of_own (hw _ List.mem_cons_self), pts_of_block (hw _ (List.mem_cons_of_mem _ List.mem_cons_self))⟩
                · have e1 : (os ++ [x1.1]).getD q nilSl = os.getD q nilSl := by
                    have : q < os.length := by omega
                    simp [List.getD, List.getElem?_append, this]
                  rw [if_neg e]
                  show IsSl _ _ ((os ++ [x1.1]).getD q nilSl).v _ ∧ _
                  rw [e1]
                  exact hR w1 (fun r hr => hw r (List.mem_cons_of_mem _ (List.mem_cons_of_mem _ hr))) q (by omega)
              · try dsimp only
                omega
            · refine (buildSlice (E := (ovE nilSl)) Try.underlying116 ty109 z109 (.cons (.t rfl) .nil) rfl rfl (fun v9 => ?_))
              refine hdn (al1 4 rfl ((opv (Ev.ldv ty116 (.t rfl) SRuleRules.l_asked) ?_)))
              refine hdn (al1 8 rfl ((app (E := (ovE nilSl)) Try.underlying116 ty109 zb109 zs109 (.t rfl) (.t rfl) (fun v10 => ?_) (hby := ⟨by (show _ ≤ 9223372036854775807); first | omega | (simp; done) | (simp; omega), by first | omega | (simp; done) | (simp; omega)⟩))))
              refine hdn (tk 9 rfl (Ev.nilCheck (.t rfl)) ?_)
              refine tk 10 rfl (fA 1 (.t rfl)) ?_
              refine al1 11 rfl ((stv ty116 SRuleRules.l_asked (.t rfl) (.t rfl) ?_))
              refine hdn (ovr (bN (pN (region (co (Ev.add_i (.t rfl) (.c (v := I 1) rfl) (fun _ => by omega)) ?_)))))
              refine mv rfl (nP (nx (X := Int × OV × OV × (List OV) × (List Res) × (Nat → Nat)) (i + 1, _, _, os ++ [x1.1], OwnS x1.1.v (ovE nilFn) (clos (l.getD i.toNat eMatch.zero) x1.2) 137 :: Var x1.2 eMatch (l.getD i.toNat eMatch.zero) 55 :: Rs, fun q => if q = i.toNat then x1.2 else bs q) ⟨?_, ?_, ?_, ?_⟩ ?_ (hL := (by dsimp only; rw [take_snoc l i hi.1 (by omega) eMatch.zero]; repeat first | exact List.Sublist.refl _ | apply List.Sublist.cons_cons | apply List.Sublist.cons))))
              · try dsimp only
                omega
              · try dsimp only
                simp; omega
              · try dsimp only
                exact all_snoc l i hi.1 (by omega) hok hokm
              · try dsimp only
                intro w1 hw q hq
                by_cases e : q = i.toNat
                · subst e
                  have e1 : (os ++ [x1.1]).getD i.toNat nilSl = x1.1 := by
                    have : os.length = i.toNat := by omega
                    simp [List.getD, ← this]
                  rw [if_pos rfl]
                  show IsSl _ _ ((os ++ [x1.1]).getD i.toNat nilSl).v _ ∧ _
                  rw [e1]
                  exact ⟨IsSl.of_own (hw _ List.mem_cons_self), pts_of_block (hw _ (List.mem_cons_of_mem _ List.mem_cons_self))⟩
                · have e1 : (os ++ [x1.1]).getD q nilSl = os.getD q nilSl := by
                    have : q < os.length := by omega
                    simp [List.getD, List.getElem?_append, this]
                  rw [if_neg e]
                  show IsSl _ _ ((os ++ [x1.1]).getD q nilSl).v _ ∧ _
                  rw [e1]
                  exact hR w1 (fun r hr => hw r (List.mem_cons_of_mem _ (List.mem_cons_of_mem _ hr))) q (by omega)
              · try dsimp only
                omega
        · refine (buildSlice (E := eMatch) Try.underlying81 ty55 z55 (.cons (.t rfl) .nil) rfl rfl (fun v11 => ?_))
          refine hdn (al1 4 rfl ((opv (Ev.ldv ty81 (.t rfl) SRuleRules.l_matches_) ?_)))
          refine hdn (al1 7 rfl ((app (E := eMatch) Try.underlying81 ty55 zb55 zs55 (.t rfl) (.t rfl) (fun v12 => ?_) (hby := ⟨by (show _ ≤ 9223372036854775807); first | omega | (simp; done) | (simp; omega), by first | omega | (simp; done) | (simp; omega)⟩))))
          refine hdn (tk 8 rfl (Ev.nilCheck (.t rfl)) ?_)
          refine tk 9 rfl (fA 0 (.t rfl)) ?_
          refine al1 10 rfl ((stv ty81 SRuleRules.l_matches_ (.t rfl) (.t rfl) ?_))
          refine hdn (ovr (pN (draw [Var b2 eMatch (l.getD i.toNat eMatch.zero) 55] (by kernel_rfl) ?_)))
          refine tk 0 rfl (Ev.move (.t rfl)) ?_
          refine tk 1 rfl (Ev.move (.t rfl)) ?_
          refine tk 2 rfl (Ev.nilCheck (.t rfl)) ?_
          refine tk 3 rfl (fA 1 (.t rfl)) ?_
          refine tk 5 rfl (Ev.ldv ty55 (.t rfl) (Lens.id _)) ?_
          refine all [4, 6] (by kernel_rfl) (by decide) (.cons rfl ?_ (.cons rfl ?_ .nil))
          · refine (opv (Ev.ldv ty116 (.t rfl) SRuleRules.l_asked) ?_)
            refine hdn (al1 6 rfl ((calln (X := OV × Nat) (fun _ => True) (fun x => x.1.v) (fun x => [OwnS x.1.v (ovE nilFn) (clos (l.getD i.toNat eMatch.zero) x.2) 137, Var x.2 eMatch (l.getD i.toNat eMatch.zero) 55]) en32 (.cons (.t rfl) .nil) (fun w I => compiled_ok _ w) (fun x1 _ => ?_))))
            refine hdn (al1 7 rfl ((buildSlice (E := (ovE nilSl)) Try.underlying116 ty109 z109 (.cons (.t rfl) .nil) rfl rfl (fun v13 => ?_))))
            refine hdn (al1 8 rfl ((app (E := (ovE nilSl)) Try.underlying116 ty109 zb109 zs109 (.t rfl) (.t rfl) (fun v14 => ?_) (hby := ⟨by (show _ ≤ 9223372036854775807); first | omega | (simp; done) | (simp; omega), by first | omega | (simp; done) | (simp; omega)⟩))))
            refine hdn (tk 9 rfl (Ev.nilCheck (.t rfl)) ?_)
            refine tk 10 rfl (fA 1 (.t rfl)) ?_
            refine al1 11 rfl ((stv ty116 SRuleRules.l_asked (.t rfl) (.t rfl) ?_))
            refine hdn (ovr (bN (pN (region (co (Ev.add_i (.t rfl) (.c (v := I 1) rfl) (fun _ => by omega)) ?_)))))
            refine mv rfl (nP (nx (X := Int × OV × OV × (List OV) × (List Res) × (Nat → Nat)) (i + 1, _, _, os ++ [x1.1], OwnS x1.1.v (ovE nilFn) (clos (l.getD i.toNat eMatch.zero) x1.2) 137 :: Var x1.2 eMatch (l.getD i.toNat eMatch.zero) 55 :: Rs, fun q => if q = i.toNat then x1.2 else bs q) ⟨?_, ?_, ?_, ?_⟩ ?_ (hL := (by dsimp only; rw [take_snoc l i hi.1 (by omega) eMatch.zero]; repeat first | exact List.Sublist.refl _ | apply List.Sublist.cons_cons | apply List.Sublist.cons))))
            · try dsimp only
              omega
            · try dsimp only
              simp; omega
            · try dsimp only
              exact all_snoc l i hi.1 (by omega) hok hokm
            · try dsimp only
              intro w1 hw q hq
              by_cases e : q = i.toNat
              · subst e
                have e1 : (os ++ [x1.1]).getD i.toNat nilSl = x1.1 := by
                  have : os.length = i.toNat := by omega
                  simp [List.getD, ← this]
                rw [if_pos rfl]
                show IsSl _ _ ((os ++ [x1.1]).getD i.toNat nilSl).v _ ∧ _
                rw [e1]
                exact ⟨IsSl.of_own (hw _ List.mem_cons_self), pts_of_block (hw _ (List.mem_cons_of_mem _ List.mem_cons_self))⟩
              · have e1 : (os ++ [x1.1]).getD q nilSl = os.getD q nilSl := by
                  have : q < os.length := by omega
                  simp [List.getD, List.getElem?_append, this]
                rw [if_neg e]
                show IsSl _ _ ((os ++ [x1.1]).getD q nilSl).v _ ∧ _
                rw [e1]
                exact hR w1 (fun r hr => hw r (List.mem_cons_of_mem _ (List.mem_cons_of_mem _ hr))) q (by omega)
            · try dsimp only
              omega
          · refine (calln (X := OV × Nat) (fun _ => True) (fun x => x.1.v) (fun x => [OwnS x.1.v (ovE nilFn) (clos (l.getD i.toNat eMatch.zero) x.2) 137, Var x.2 eMatch (l.getD i.toNat eMatch.zero) 55]) en32 (.cons (.t rfl) .nil) (fun w I => compiled_ok _ w) (fun x1 _ => ?_))
            refine hdn (all [4, 7] (by kernel_rfl) (by decide) (.cons rfl ?_ (.cons rfl ?_ .nil)))
            · refine (opv (Ev.ldv ty116 (.t rfl) SRuleRules.l_asked) ?_)
              refine hdn (al1 7 rfl ((buildSlice (E := (ovE nilSl)) Try.underlying116 ty109 z109 (.cons (.t rfl) .nil) rfl rfl (fun v15 => ?_))))
              refine hdn (al1 8 rfl ((app (E := (ovE nilSl)) Try.underlying116 ty109 zb109 zs109 (.t rfl) (.t rfl) (fun v16 => ?_) (hby := ⟨by (show _ ≤ 9223372036854775807); first | omega | (simp; done) | (simp; omega), by first | omega | (simp; done) | (simp; omega)⟩))))
              refine hdn (tk 9 rfl (Ev.nilCheck (.t rfl)) ?_)
              refine tk 10 rfl (fA 1 (.t rfl)) ?_
              refine al1 11 rfl ((stv ty116 SRuleRules.l_asked (.t rfl) (.t rfl) ?_))
              refine hdn (ovr (bN (pN (region (co (Ev.add_i (.t rfl) (.c (v := I 1) rfl) (fun _ => by omega)) ?_)))))
              refine mv rfl (nP (nx (X := Int × OV × OV × (List OV) × (List Res) × (Nat → Nat)) (i + 1, _, _, os ++ [x1.1], OwnS x1.1.v (ovE nilFn) (clos (l.getD i.toNat eMatch.zero) x1.2) 137 :: Var x1.2 eMatch (l.getD i.toNat eMatch.zero) 55 :: Rs, fun q => if q = i.toNat then x1.2 else bs q) ⟨?_, ?_, ?_, ?_⟩ ?_ (hL := (by dsimp only; rw [take_snoc l i hi.1 (by omega) eMatch.zero]; repeat first | exact List.Sublist.refl _ | apply List.Sublist.cons_cons | apply List.Sublist.cons))))
              · try dsimp only
                omega
              · try dsimp only
                simp; omega
              · try dsimp only
                exact all_snoc l i hi.1 (by omega) hok hokm
              · try dsimp only
                intro w1 hw q hq
                by_cases e : q = i.toNat
                · subst e
                  have e1 : (os ++ [x1.1]).getD i.toNat nilSl = x1.1 := by
                    have : os.length = i.toNat := by omega
                    simp [List.getD, ← this]
                  rw [if_pos rfl]
                  show IsSl _ _ ((os ++ [x1.1]).getD i.toNat nilSl).v _ ∧ _
                  rw [e1]
                  exact ⟨IsSl.of_own (hw _ List.mem_cons_self), pts_of_block (hw _ (List.mem_cons_of_mem _ List.mem_cons_self))⟩
                · have e1 : (os ++ [x1.1]).getD q nilSl = os.getD q nilSl := by
                    have : q < os.length := by omega
                    simp [List.getD, List.getElem?_append, this]
                  rw [if_neg e]
                  show IsSl _ _ ((os ++ [x1.1]).getD q nilSl).v _ ∧ _
                  rw [e1]
                  exact hR w1 (fun r hr => hw r (List.mem_cons_of_mem _ (List.mem_cons_of_mem _ hr))) q (by omega)
              · try dsimp only
                omega
            · refine (buildSlice (E := (ovE nilSl)) Try.underlying116 ty109 z109 (.cons (.t rfl) .nil) rfl rfl (fun v17 => ?_))
              refine hdn (al1 4 rfl ((opv (Ev.ldv ty116 (.t rfl) SRuleRules.l_asked) ?_)))
              refine hdn (al1 8 rfl ((app (E := (ovE nilSl)) Try.underlying116 ty109 zb109 zs109 (.t rfl) (.t rfl) (fun v18 => ?_) (hby := ⟨by (show _ ≤ 9223372036854775807); first | omega | (simp; done) | (simp; omega), by first | omega | (simp; done) | (simp; omega)⟩))))
              refine hdn (tk 9 rfl (Ev.nilCheck (.t rfl)) ?_)
              refine tk 10 rfl (fA 1 (.t rfl)) ?_
              refine al1 11 rfl ((stv ty116 SRuleRules.l_asked (.t rfl) (.t rfl) ?_))
              refine hdn (ovr (bN (pN (region (co (Ev.add_i (.t rfl) (.c (v := I 1) rfl) (fun _ => by omega)) ?_)))))
              refine mv rfl (nP (nx (X := Int × OV × OV × (List OV) × (List Res) × (Nat → Nat)) (i + 1, _, _, os ++ [x1.1], OwnS x1.1.v (ovE nilFn) (clos (l.getD i.toNat eMatch.zero) x1.2) 137 :: Var x1.2 eMatch (l.getD i.toNat eMatch.zero) 55 :: Rs, fun q => if q = i.toNat then x1.2 else bs q) ⟨?_, ?_, ?_, ?_⟩ ?_ (hL := (by dsimp only; rw [take_snoc l i hi.1 (by omega) eMatch.zero]; repeat first | exact List.Sublist.refl _ | apply List.Sublist.cons_cons | apply List.Sublist.cons))))
              · try dsimp only
                omega
              · try dsimp only
                simp; omega
              · try dsimp only
                exact all_snoc l i hi.1 (by omega) hok hokm
              · try dsimp only
                intro w1 hw q hq
                by_cases e : q = i.toNat
                · subst e
                  have e1 : (os ++ [x1.1]).getD i.toNat nilSl = x1.1 := by
                    have : os.length = i.toNat := by omega
                    simp [List.getD, ← this]
                  rw [if_pos rfl]
                  show IsSl _ _ ((os ++ [x1.1]).getD i.toNat nilSl).v _ ∧ _
                  rw [e1]
                  exact ⟨IsSl.of_own (hw _ List.mem_cons_self), pts_of_block (hw _ (List.mem_cons_of_mem _ List.mem_cons_self))⟩
                · have e1 : (os ++ [x1.1]).getD q nilSl = os.getD q nilSl := by
                    have : q < os.length := by omega
                    simp [List.getD, List.getElem?_append, this]
                  rw [if_neg e]
                  show IsSl _ _ ((os ++ [x1.1]).getD q nilSl).v _ ∧ _
                  rw [e1]
                  exact hR w1 (fun r hr => hw r (List.mem_cons_of_mem _ (List.mem_cons_of_mem _ hr))) q (by omega)
              · try dsimp only
                omega
    · try simp only [Gx.nb] at hge
      refine exit (pX (pX (bX (pN (sg (mv rfl (asn rfl (co (Ev.assign (.c (v := I 0) rfl)) ?_))))))))
      refine nP (ret (done rfl (.tmp rfl (.tmp rfl .nil)) (fun w I => ?_)))
      have et : l.take i.toNat = l := List.take_of_length_le (by omega)
      rw [et] at hok I
      have hc : compE l = 0 := by unfold compE; rw [decide_eq_false (by omega), hok]; rfl
      refine retN (b1, Rs ++ [OwnS mo.v eMatch l 55, OwnS ao.v (ovE nilSl) os 109, Var b1 eRuleRules ⟨mo, ao⟩ 118]) (fun _ w1 hw => ?_) (by unfold compV ptrC ptrO; rw [hc]; rfl) (List.Sublist.refl _) w I
      refine ⟨mo, ao, os, bs, pts_of_block (hw _ (List.mem_append_right _ (List.mem_cons_of_mem _ (List.mem_cons_of_mem _ List.mem_cons_self)))), IsSl.of_own (hw _ (List.mem_append_right _ List.mem_cons_self)), IsSl.of_own (hw _ (List.mem_append_right _ (List.mem_cons_of_mem _ List.mem_cons_self))), by omega, fun q hq => hR w1 (fun r hr => hw r (List.mem_append_left _ hr)) q (by omega)⟩
def firstF (q : SMatch → Bool) : List SMatch → Int → Int
  | [], _ => -1
  | m :: l, k => bif q m then k else firstF q l (k + 1)
theorem firstF_step (q : SMatch → Bool) (l : List SMatch) (i : Nat) (k : Int) (h : i < l.length) : firstF q (l.drop i) k = bif q (l.getD i eMatch.zero) then k else firstF q (l.drop (i + 1)) (k + 1) := by
  rw [List.drop_eq_getElem_cons h]
  simp [firstF, List.getD, h]
theorem first_ok (b : Nat) (l : List SMatch) (n : Int) (h : SHeader) (w : World) (hR : RulesAt w b l) : Calls Try.prog 29 #[.pointer (some ⟨b, 0, none⟩), I n, eHeader.val h] w (RetV w (I (firstF (fun m => metB m n h) l 0))) := by
  obtain ⟨mo, ao, os, bs, hr, hmo, hao, hol, hcl⟩ := hR
  have hml := hmo.le
  have hal := hao.le
  refine en0 26 Try.func29 ?_
  refine sg (cons (box (E := eHeader) (.t rfl) (fun b1 => ?_)))
  refine co (Ev.assign (.c (v := I 0) rfl)) ?_
  refine nP (seq (sg (mv rfl (co (Ev.eql_p Try.underlying75 (.t rfl) (.c rfl)) ?_))))
  refine nP (condF rfl (rfl) ?_)
  refine skip (pN (seq (sg (mv rfl (co (Ev.nilCheck (.t rfl)) ?_)))))
  refine co (fA 1 (.t rfl)) ?_
  refine co (Ev.load ty116 (.t rfl) (ptsL (fun w I => hr.keep I.keeps) SRuleRules.l_asked)) ?_
  refine co (Ev.len Try.underlying116 (.t rfl) (fun w I => hao.keep0 I.keeps)) ?_
  refine co (Ev.move (.c (v := I 0) rfl)) ?_
  refine nP (block (lp (X := Int) (fun x : Int => (0 ≤ x ∧ x ≤ l.length) ∧ (firstF (fun m => metB m n h) (l.drop x.toNat) x = firstF (fun m => metB m n h) l 0)) (fun x : Int => [dz, (1, true, I n), (5, true, .pointer (some ⟨b1, 0, none⟩)), (14, true, ao.v), (15, true, I os.length), (16, true, I x)]) (fun x : Int => [Var b1 eHeader h 42]) (fun x : Int => (l.length - x).toNat) (0) ⟨?_, ?_⟩ (fun x hx => ?_)))
  · omega
  · rfl
  obtain ⟨i, rfl⟩ : ∃ y, y = x := ⟨x, rfl⟩
  obtain ⟨hi, hf⟩ : (0 ≤ i ∧ i ≤ l.length) ∧ (firstF (fun m => metB m n h) (l.drop i.toNat) i = firstF (fun m => metB m n h) l 0) := hx
  show Sat _ _ [dz, (1, true, I n), (5, true, .pointer (some ⟨b1, 0, none⟩)), (14, true, ao.v), (15, true, I os.length), (16, true, I i)] [Var b1 eHeader h 42]
  refine sg (co (Ev.lss_i (.t rfl) (.t rfl)) ?_)
  refine nP (seq ?_)
  first | refine condD rfl (fun hlt => ?_) (fun hge => ?_) | refine cond rfl (fun hlt => ?_) (fun hge => ?_)
  · try simp only [Gx.nb] at hlt
    refine skip (pN (seq (block (sg (mv rfl (co (Ev.indexAddr Try.underlying116 ty109 (.t rfl) (.t rfl) (fun w I => hao.keep0 I.keeps) (fun _ => by omega)) ?_))))))
    refine co (Ev.loadS0 ty109 (.t rfl) (fun w I => hao.keep0 I.keeps) (fun _ => by omega)) ?_
    refine asn rfl (asn rfl (nP (sg ?_)))
    have hck := hcl i.toNat (by omega)
    refine mv rfl (mv rfl (cons (callv en31 (.cons (.t rfl) (.cons (.t rfl) (.cons (.t rfl) .nil))) (fun w I => meetsL_ok _ _ n h _ _ w (hck.1.keep0 I.keeps) (hck.2.keep I.keeps) (ptsVar (by repeat first | exact mH | apply mT | apply mA) (Lens.id _) w I)) ?_)))
    refine nP ?_
    first | refine condD rfl (fun h2 => ?_) (fun h2 => ?_) | refine cond rfl (fun h2 => ?_) (fun h2 => ?_)
    · refine sg (mv rfl (asn rfl (nP (ret (bR (pR (pR (bR (pR (done rfl (.tmp rfl .nil) (retE ?_)))))))))))
      rw [← hf, firstF_step _ l i.toNat i (by omega)]
      have h3 : metB (l.getD i.toNat eMatch.zero) n h = true := by simpa using h2
      rw [h3]; rfl
    · refine skip (bN (pN (region (co (Ev.add_i (.t rfl) (.c (v := I 1) rfl) (fun _ => by omega)) ?_))))
      refine mv rfl (nP (nx (X := Int) (i + 1) ⟨?_, ?_⟩ ?_))
      · try dsimp only
        omega
      · try dsimp only
        rw [← hf, firstF_step _ l i.toNat i (by omega)]
        have e : (i + 1).toNat = i.toNat + 1 := by omega
        rw [e]
        have h3 : metB (l.getD i.toNat eMatch.zero) n h = false := by simpa using h2
        rw [h3]; rfl
      · try dsimp only
        omega
  · try simp only [Gx.nb] at hge
    refine exit (pX (pX (bX (pN (sg (co (Ev.assign (.c (v := I (-1)) rfl)) ?_))))))
    refine nP (ret (done rfl (.tmp rfl .nil) (retE ?_)))
    rw [List.drop_eq_nil_of_le (by omega)] at hf
    rw [← hf]; rfl
theorem getD_take' {α : Type} (l : List α) (m i : Nat) (d : α) (h : i < m) : (l.take m).getD i d = l.getD i d := by simp [List.getD, List.getElem?_take, h]
def deadAt (l : List SMatch) (k : Nat) : Bool := (l.take k).any fun m => coversM m (l.getD k eMatch.zero)
def deadT (l : List SMatch) (n : Nat) : List Int := ((List.range n).filter (deadAt l)).map fun k : Nat => (k : Int)
def deadB (l : List SMatch) : List Int := deadT l l.length
theorem deadT_step (l : List SMatch) (n : Nat) : deadT l (n + 1) = bif deadAt l n then deadT l n ++ [(n : Int)] else deadT l n := by
  unfold deadT
  rw [List.range_succ, List.filter_append]
  cases h : deadAt l n <;> simp [h]
theorem deadT_len (l : List SMatch) (n : Nat) : (deadT l n).length ≤ n := by
  unfold deadT
  rw [List.length_map]
  exact Nat.le_trans (List.length_filter_le _ _) (by simp)
theorem deadAt_yes (l : List SMatch) (i j : Nat) (hi : i < l.length) (hj : j < i) (h : coversM (l.getD j eMatch.zero) (l.getD i eMatch.zero) = true) : deadAt l i = true := by
  unfold deadAt
  rw [List.any_eq_true]
  refine ⟨l.getD j eMatch.zero, ?_, h⟩
  have e := getD_take' l i j eMatch.zero hj
  rw [← e]
  exact getD_mem _ _ _ (by simp; omega)
theorem deadAt_no (l : List SMatch) (i : Nat) (hi : i ≤ l.length) (h : ∀ q : Nat, (q : Int) < i → coversM (l.getD q eMatch.zero) (l.getD i eMatch.zero) = false) : deadAt l i = false := by
  rw [Bool.eq_false_iff]
  intro ht
  unfold deadAt at ht
  obtain ⟨m, hm, hc⟩ := List.any_eq_true.1 ht
  obtain ⟨q, hq, rfl⟩ := List.mem_iff_getElem.1 hm
  have hq2 : q < i := by simp at hq; omega
  have e : (l.take i)[q] = l.getD q eMatch.zero := by
    have : q < l.length := by omega
    simp [List.getD, this]
  rw [e, h q (by omega)] at hc
  cases hc
theorem en37 : Gx.Enters Try.prog 37 := Gx.Enters.mk' (by kernel_rfl)
theorem dead_ok (b : Nat) (l : List SMatch) (w : World) (hR : RulesAt w b l) (hll : l.length ≤ 256) : Calls Try.prog 21 #[.pointer (some ⟨b, 0, none⟩)] w (RetO w iE (deadB l) 3) := by
  obtain ⟨mo, ao, os, bs, hr, hmo, hao, hol, hcl⟩ := hR
  have hml := hmo.le
  have hal := hao.le
  refine en0 41 Try.func21 ?_
  refine sg (co (Ev.assign (.c (v := (Go.Value.slice none 0 0)) rfl)) ?_)
  refine nP (seq (sg (mv rfl (co (Ev.eql_p Try.underlying75 (.t rfl) (.c rfl)) ?_))))
  refine nP (condF rfl (rfl) ?_)
  refine skip (pN (sg (co (Ev.assign (.c (v := (Go.Value.slice none 0 0)) rfl)) ?_)))
  refine takeNil iE 3 ?_
  refine nP (seq (sg (mv rfl (co (Ev.nilCheck (.t rfl)) ?_))))
  refine co (fA 0 (.t rfl)) ?_
  refine co (Ev.load ty81 (.t rfl) (ptsL (fun w I => hr.keep I.keeps) SRuleRules.l_matches_)) ?_
  refine co (Ev.len Try.underlying81 (.t rfl) (fun w I => hmo.keep0 I.keeps)) ?_
  refine co (Ev.move (.c (v := I 0) rfl)) ?_
  refine nP (block (lp (X := Int × OV × (List Int)) (fun x : Int × OV × (List Int) => (0 ≤ x.1 ∧ x.1 ≤ l.length) ∧ (x.2.2 = deadT l x.1.toNat)) (fun x : Int × OV × (List Int) => [dz, (0, true, .pointer (some ⟨b, 0, none⟩)), (3, true, x.2.1.v), (13, true, mo.v), (14, true, I l.length), (15, true, I x.1)]) (fun x : Int × OV × (List Int) => [OwnS x.2.1.v iE x.2.2 3]) (fun x : Int × OV × (List Int) => (l.length - x.1).toNat) (0, nilSl, []) ⟨?_, ?_⟩ (fun x hx => ?_)))
  · omega
  · rfl
  obtain ⟨i, o, ds⟩ := x
  obtain ⟨hi, hd⟩ : (0 ≤ i ∧ i ≤ l.length) ∧ (ds = deadT l i.toNat) := hx
  show Sat _ _ [dz, (0, true, .pointer (some ⟨b, 0, none⟩)), (3, true, o.v), (13, true, mo.v), (14, true, I l.length), (15, true, I i)] [OwnS o.v iE ds 3]
  have hdl := deadT_len l i.toNat
  rw [← hd] at hdl
  refine sg (co (Ev.lss_i (.t rfl) (.t rfl)) ?_)
  refine nP (seq ?_)
  first | refine condD rfl (fun hlt => ?_) (fun hge => ?_) | refine cond rfl (fun hlt => ?_) (fun hge => ?_)
  · try simp only [Gx.nb] at hlt
    refine skip (pN (seq (block (sg (mv rfl (co (Ev.indexAddr Try.underlying81 ty55 (.t rfl) (.t rfl) (fun w I => hmo.keep0 I.keeps) (fun _ => by omega)) ?_))))))
    refine co (Ev.loadS0 ty55 (.t rfl) (fun w I => hmo.keep0 I.keeps) (fun _ => by omega)) ?_
    refine cons (alloc z55 (fun b1 => ?_))
    refine asn rfl (cons (stv ty55 (Lens.id _) (.t rfl) (.t rfl) ?_))
    refine nP (sg (mv rfl (co (Ev.nilCheck (.t rfl)) ?_)))
    refine co (fA 0 (.t rfl)) ?_
    refine co (Ev.load ty81 (.t rfl) (ptsL (fun w I => hr.keep I.keeps) SRuleRules.l_matches_)) ?_
    have hsub : IsSl eMatch w (subS eMatch.size mo.v 0 i.toNat) (l.take i.toNat) := by
      have := hmo.sub (l := 0) (k := i.toNat) (by omega) (by omega)
      simpa using this
    have htl : (l.take i.toNat).length = i.toNat := by simp; omega
    refine mv rfl (co (Ev.sliceH Try.underlying81 ty55 (.t rfl) (.t rfl) (fun w I => hmo.keep0 I.keeps) (fun _ => by omega)) ?_)
    refine co (Ev.len Try.underlying81 (.t rfl) (fun w I => IsSl.sub (w := w) (hmo.keep0 I.keeps) (by omega) (by omega))) ?_
    refine co (Ev.move (.c (v := I 0) rfl)) ?_
    refine nP (block (lp (X := Int) (fun x : Int => (0 ≤ x ∧ x ≤ i) ∧ (∀ q : Nat, (q : Int) < x → coversM (l.getD q eMatch.zero) (l.getD i.toNat eMatch.zero) = false)) (fun x : Int => [dz, (0, true, .pointer (some ⟨b, 0, none⟩)), (3, true, o.v), (4, true, I i), (5, true, .pointer (some ⟨b1, 0, none⟩)), (13, true, mo.v), (14, true, I l.length), (15, true, I i), (25, true, subS eMatch.size mo.v 0 i.toNat), (26, true, I (l.take i.toNat).length), (27, true, I x)]) (fun x : Int => [Var b1 eMatch (l.getD i.toNat eMatch.zero) 55, OwnS o.v iE ds 3]) (fun x : Int => (i - x).toNat) (0) ⟨?_, ?_⟩ (fun x hx => ?_)))
    · omega
    · intro q hq; omega
    obtain ⟨j, rfl⟩ : ∃ y, y = x := ⟨x, rfl⟩
    obtain ⟨hj, hn⟩ : (0 ≤ j ∧ j ≤ i) ∧ (∀ q : Nat, (q : Int) < j → coversM (l.getD q eMatch.zero) (l.getD i.toNat eMatch.zero) = false) := hx
    show Sat _ _ [dz, (0, true, .pointer (some ⟨b, 0, none⟩)), (3, true, o.v), (4, true, I i), (5, true, .pointer (some ⟨b1, 0, none⟩)), (13, true, mo.v), (14, true, I l.length), (15, true, I i), (25, true, subS eMatch.size mo.v 0 i.toNat), (26, true, I (l.take i.toNat).length), (27, true, I j)] [Var b1 eMatch (l.getD i.toNat eMatch.zero) 55, OwnS o.v iE ds 3]
    refine sg (co (Ev.lss_i (.t rfl) (.t rfl)) ?_)
    refine nP (seq ?_)
    first | refine condD rfl (fun hlt2 => ?_) (fun hge2 => ?_) | refine cond rfl (fun hlt2 => ?_) (fun hge2 => ?_)
    · try simp only [Gx.nb] at hlt2
      refine skip (pN (seq (block (sg (co (Ev.indexAddr Try.underlying81 ty55 (.t rfl) (.t rfl) (fun w I => hsub.keep0 I.keeps) (fun _ => by omega)) ?_)))))
      refine co (Ev.loadS0 ty55 (.t rfl) (fun w I => hsub.keep0 I.keeps) (fun _ => by omega)) ?_
      refine cons (alloc z55 (fun b2 => ?_))
      refine cons (stv ty55 (Lens.id _) (.t rfl) (.t rfl) ?_)
      refine nP (sg (co (Ev.ldv ty55 (.t rfl) (Lens.id _)) ?_))
      refine co (Ev.ldv ty55 (.t rfl) (Lens.id _)) ?_
      refine cons (callv en37 (.cons (.t rfl) (.cons (.t rfl) .nil)) (fun w I => covers_ok _ _ w) ?_)
      refine nP ?_
      first | refine condD rfl (fun h3 => ?_) (fun h3 => ?_) | refine cond rfl (fun h3 => ?_) (fun h3 => ?_)
      · have hst : deadT l (i + 1).toNat = deadT l i.toNat ++ [i] := by
          have e : (i + 1).toNat = i.toNat + 1 := by omega
          have e2 : (i.toNat : Int) = i := by omega
          have h3b := h3
          rw [show (l.take i.toNat).getD j.toNat eMatch.zero = l.getD j.toNat eMatch.zero from getD_take' l i.toNat j.toNat _ (by omega)] at h3b
          rw [e, deadT_step, deadAt_yes l i.toNat j.toNat (by omega) (by omega) h3b, e2]; rfl
        refine sg (mv rfl (mv rfl (cons (buildSlice (E := iE) Try.underlying22 ty3 z3 (.cons (.t rfl) .nil) rfl rfl (fun v3 => ?_)))))
        refine cons (app (E := iE) Try.underlying22 ty3 zb3 zs3 (.t rfl) (.t rfl) (fun v4 => ?_) (hby := ⟨by (show _ ≤ 9223372036854775807); first | omega | (simp; done) | (simp; omega), by first | omega | (simp; done) | (simp; omega)⟩))
        refine asn rfl (nP (exit (bO rfl (pX (pX (bX (bN (pN (region (co (Ev.add_i (.t rfl) (.c (v := I 1) rfl) (fun _ => by omega)) ?_))))))))))
        refine mv rfl (nP (nx (X := Int × OV × (List Int)) (i + 1, _, _) ⟨?_, ?_⟩ ?_))
        · try dsimp only
          omega
        · try dsimp only
          rw [hst, ← hd]
        · try dsimp only
          omega
      · have h3b : coversM (l.getD j.toNat eMatch.zero) (l.getD i.toNat eMatch.zero) = false := by
          have e := getD_take' l i.toNat j.toNat eMatch.zero (by omega)
          rw [← e]; simpa using h3
        refine skip (bN (pN (region (co (Ev.add_i (.t rfl) (.c (v := I 1) rfl) (fun _ => by omega)) ?_))))
        refine mv rfl (nP (nx (X := Int) (j + 1) ⟨?_, ?_⟩ ?_))
        · try dsimp only
          omega
        · try dsimp only
          intro q hq
          by_cases e : q = j.toNat
          · rw [e]; exact h3b
          · exact hn q (by omega)
        · try dsimp only
          omega
    · try simp only [Gx.nb] at hge2
      have hst : deadT l (i + 1).toNat = deadT l i.toNat := by
        have e : (i + 1).toNat = i.toNat + 1 := by omega
        rw [e, deadT_step, deadAt_no l i.toNat (by omega) (fun q hq => hn q (by omega))]; rfl
      refine exit (pX (pX (bX (bN (pN (region (co (Ev.add_i (.t rfl) (.c (v := I 1) rfl) (fun _ => by omega)) ?_)))))))
      refine mv rfl (nP (nx (X := Int × OV × (List Int)) (i + 1, _, _) ⟨?_, ?_⟩ ?_))
      · try dsimp only
        omega
      · try dsimp only
        rw [hst, ← hd]
      · try dsimp only
        omega
  · try simp only [Gx.nb] at hge
    refine exit (pX (pX (bX (pN (sg (mv rfl (asn rfl (nP (ret (done rfl (.tmp rfl .nil) (retOE (by repeat first | exact mH | apply mT | apply mA) ?_)))))))))))
    rw [hd]
    unfold deadB
    have e : i.toNat = l.length := by omega
    rw [e]
def lW : List SMatch := [{ eMatch.zero with asks := 2, src := { addr := { v6 := false, b := (Vector.replicate 16 0).set 0 10 }, bits := 8 } }, { eMatch.zero with asks := 1, in_ := ⟨3, 4⟩ }]
end Go.Proofs.Ytmdkmclgfgaahaa
