/- packet -/
import Derived.Test.YtegcihhhighipaaP1
import Derived.Test.YtegcihhhighipaaGxK
set_option linter.unusedVariables false
set_option linter.unusedSimpArgs false
namespace Go.Proofs.Ytegcihhhighipaa
open Go Go.Gx

structure SAddr where
  v6 : Bool
  b : (Vector UInt8 16)

def SAddr.to : (Bool × (Vector UInt8 16)) → SAddr := fun x => ⟨x.1, x.2⟩

def SAddr.of : SAddr → (Bool × (Vector UInt8 16)) := fun x => (x.v6, x.b)

def eAddr : Enc SAddr := isoE (prodE bE (arrE 16 u8E)) SAddr.to SAddr.of

def SAddr.l_v6 : Lens eAddr bE 0 := lIso _ SAddr.to SAddr.of (fun _ => rfl) (lFst bE (arrE 16 u8E))

@[simp] theorem SAddr.get_v6 (x : SAddr) : SAddr.l_v6.get x = x.v6 := rfl

@[simp] theorem SAddr.set_v6 (x : SAddr) (y : Bool) : SAddr.l_v6.set x y = { x with v6 := y } := rfl

def SAddr.l_b : Lens eAddr (arrE 16 u8E) 1 := lIso _ SAddr.to SAddr.of (fun _ => rfl) (Lens.comp (lSnd bE (arrE 16 u8E)) (Lens.id (arrE 16 u8E)))

@[simp] theorem SAddr.get_b (x : SAddr) : SAddr.l_b.get x = x.b := rfl

@[simp] theorem SAddr.set_b (x : SAddr) (y : (Vector UInt8 16)) : SAddr.l_b.set x y = { x with b := y } := rfl

/-- How many bits an address has. -/
def wd (a : SAddr) : Int := bif a.v6 then 128 else 32
theorem wd_le (a : SAddr) : 32 ≤ wd a ∧ wd a ≤ 128 := by unfold wd; cases a.v6 <;> decide
def mk1 (left : Int) (x : UInt8) : UInt8 := if left ≤ 0 then 0 else if left < 8 then x &&& shl8 255 (8 - left).toNat else x
/-- The first bits; the others 0. -/
def maskV (bits : Int) (b : Vector UInt8 16) : Vector UInt8 16 := Vector.ofFn fun i => mk1 (bits - 8 * (i.val : Int)) b[i]
/-- On the way there. -/
def maskTo (bits : Int) (b : Vector UInt8 16) (k : Int) : Vector UInt8 16 := Vector.ofFn fun i => if (i.val : Int) < k then mk1 (bits - 8 * (i.val : Int)) b[i] else b[i]
theorem maskTo_zero (bits : Int) (b : Vector UInt8 16) : maskTo bits b 0 = b := by
  apply Vector.ext
  intro i hi
  have : ¬ (i : Int) < 0 := by omega
  simp only [maskTo, Vector.getElem_ofFn, if_neg this, Fin.getElem_fin]
theorem maskTo_all (bits : Int) (b : Vector UInt8 16) (k : Int) (h : 16 ≤ k) : maskTo bits b k = maskV bits b := by
  apply Vector.ext
  intro i hi
  have : (i : Int) < k := by omega
  simp [maskTo, maskV, this]
theorem maskTo_step (bits : Int) (b : Vector UInt8 16) (k : Int) (h0 : 0 ≤ k) (h1 : k < 16) (hk : k.toNat < 16) : (maskTo bits b k).set k.toNat (mk1 (bits - 8 * k) b[k.toNat]) hk = maskTo bits b (k + 1) := by
  apply Vector.ext
  intro i hi
  rw [Vector.getElem_set]
  by_cases e : k.toNat = i
  · subst e
    have e2 : ((k.toNat : Nat) : Int) = k := by omega
    have e3 : (k.toNat : Int) < k + 1 := by omega
    simp [maskTo, e2]
    omega
  · rw [if_neg e]
    by_cases e4 : (i : Int) < k
    · have e5 : (i : Int) < k + 1 := by omega
      simp [maskTo, e4, e5]
    · have e5 : ¬ (i : Int) < k + 1 := by omega
      simp [maskTo, e4, e5]
theorem maskTo_skip (bits : Int) (b : Vector UInt8 16) (k : Int) (h0 : 0 ≤ k) (h1 : k < 16) (hk : k.toNat < 16) (h : mk1 (bits - 8 * k) b[k.toNat] = b[k.toNat]) : maskTo bits b k = maskTo bits b (k + 1) := by
  rw [← maskTo_step bits b k h0 h1 hk, h]
  apply Vector.ext
  intro i hi
  rw [Vector.getElem_set]
  split
  · rename_i e
    subst e
    have e2 : ¬ ((k.toNat : Nat) : Int) < k := by omega
    simp only [maskTo, Vector.getElem_ofFn, if_neg e2, Fin.getElem_fin]
  · rfl
theorem maskTo_get (bits : Int) (b : Vector UInt8 16) (k : Int) (h0 : 0 ≤ k) (hk : k.toNat < 16) : (maskTo bits b k)[k.toNat] = b[k.toNat] := by
  have e2 : ¬ ((k.toNat : Nat) : Int) < k := by omega
  simp only [maskTo, Vector.getElem_ofFn, if_neg e2, Fin.getElem_fin]
def checkA (a : SAddr) : Int := if maskV (wd a) a.b = a.b then 0 else 150


theorem ty4 : TyOK Try.prog 4 bE := TyOK.mk' (by kernel_rfl) (by kernel_rfl)

theorem width_ok (a : SAddr) (w : World) : Calls Try.prog 58 #[eAddr.val a] w (RetV w (I (wd a))) := by
  refine enter0 5 Try.func58 rfl rfl (Nat.le_of_ble_eq_true rfl) ?_
  refine seq ?_
  refine region ?_
  refine cons (box (E := eAddr) (.t rfl) (fun b1 => ?_))
  refine cons (opv (Ev.assign (.c (v := I 0) rfl)) ?_)
  refine nil ?_
  refine pN ?_
  refine seq ?_
  refine seq ?_
  refine region ?_
  refine cons (opv (Ev.fieldAddr (o := 0) (.t rfl) (by kernel_rfl)) ?_)
  refine cons (opv (Ev.load (xv := a.v6) ty4 (.t rfl) (ptsVar (by repeat first | exact mH | apply mT | apply mA) SAddr.l_v6)) ?_)
  refine nil ?_
  refine pN ?_
  first | refine condD rfl (fun h0 => ?_) (fun h0 => ?_) | refine cond rfl (fun h0 => ?_) (fun h0 => ?_)
  · try simp only [Bool.and_eq_true, Bool.or_eq_true, Bool.or_eq_false_iff, Bool.and_eq_false_iff, Bool.not_eq_true', Bool.not_eq_false', decide_eq_true_eq, decide_eq_false_iff_not, Decidable.not_not] at h0
    refine seq ?_
    refine region ?_
    refine cons (opv (Ev.assign (.c (v := I 128) rfl)) ?_)
    refine nil ?_
    refine pN ?_
    refine ret ?_
    refine pR ?_
    refine done rfl (.tmp rfl .nil) (retE ?_)
    simp [wd, h0, tupV]
  · try simp only [Bool.and_eq_true, Bool.or_eq_true, Bool.or_eq_false_iff, Bool.and_eq_false_iff, Bool.not_eq_true', Bool.not_eq_false', decide_eq_true_eq, decide_eq_false_iff_not, Decidable.not_not] at h0
    refine skip ?_
    refine pN ?_
    refine seq ?_
    refine region ?_
    refine cons (opv (Ev.assign (.c (v := I 32) rfl)) ?_)
    refine nil ?_
    refine pN ?_
    refine ret ?_
    refine done rfl (.tmp rfl .nil) (retE ?_)
    simp [wd, h0, tupV]

theorem z24 : (Try.prog.info? 24).bind (·.zero) = some (eAddr.val eAddr.zero) := by kernel_rfl

theorem ty24 : TyOK Try.prog 24 eAddr := TyOK.mk' (by kernel_rfl) (by kernel_rfl)

theorem masked_ok (a : SAddr) (n : Int) (w : World) (hn : 0 ≤ n ∧ n ≤ 128) : Calls Try.prog 57 #[eAddr.val a, I n] w (RetV w (eAddr.val { a with b := maskV n a.b })) := by
  refine enter0 35 Try.func57 rfl rfl (Nat.le_of_ble_eq_true rfl) ?_
  refine seq ?_
  refine region ?_
  refine cons (box (E := eAddr) (.t rfl) (fun b1 => ?_))
  refine cons (alloc z24 (fun b2 => ?_))
  refine nil ?_
  refine pN ?_
  refine seq ?_
  refine seq ?_
  refine region ?_
  refine cons (opv (Ev.move (.c (v := I 0) rfl)) ?_)
  refine nil ?_
  refine pN ?_
  refine block ?_
  refine loop (X := Int × (Vector UInt8 16)) (fun x : Int × (Vector UInt8 16) => (0 ≤ x.1 ∧ x.1 ≤ 16) ∧ (x.2 = maskTo n a.b x.1)) (fun x : Int × (Vector UInt8 16) => [(1, true, I n), (2, true, .pointer (some ⟨b1, 0, none⟩)), (4, true, .pointer (some ⟨b2, 0, none⟩)), (7, true, I x.1)]) (fun x : Int × (Vector UInt8 16) => [Var b2 eAddr eAddr.zero 24, Var b1 eAddr { a with b := x.2 } 24]) (fun x : Int × (Vector UInt8 16) => (16 - x.1).toNat) (0, a.b) ⟨?_, ?_⟩ (by repeat first | exact Sub.nil | refine Sub.cons rfl ?_) (by repeat first | exact List.Sublist.refl _ | apply List.Sublist.cons_cons | apply List.Sublist.cons) (fun x hx => ?_)
  · omega
  · exact (maskTo_zero n a.b).symm
  obtain ⟨k, v⟩ := x
  obtain ⟨hk, hv⟩ : (0 ≤ k ∧ k ≤ 16) ∧ (v = maskTo n a.b k) := hx
  show Sat _ _ [(1, true, I n), (2, true, .pointer (some ⟨b1, 0, none⟩)), (4, true, .pointer (some ⟨b2, 0, none⟩)), (7, true, I k)] [Var b2 eAddr eAddr.zero 24, Var b1 eAddr { a with b := v } 24]
  refine seq ?_
  refine region ?_
  refine cons (opv (Ev.lss_i (.t rfl) (.c (v := I 16) rfl)) ?_)
  refine nil ?_
  refine pN ?_
  refine seq ?_
  first | refine condD rfl (fun hlt => ?_) (fun hge => ?_) | refine cond rfl (fun hlt => ?_) (fun hge => ?_)
  · try simp only [Bool.and_eq_true, Bool.or_eq_true, Bool.or_eq_false_iff, Bool.and_eq_false_iff, Bool.not_eq_true', Bool.not_eq_false', decide_eq_true_eq, decide_eq_false_iff_not, Decidable.not_not] at hlt
    refine skip ?_
    refine pN ?_
    refine seq ?_
    refine block ?_
    refine seq ?_
    refine region ?_
    refine cons (opv (Ev.move (.t rfl)) ?_)
    refine cons (opv (Ev.assign (.t rfl)) ?_)
    refine nil ?_
    refine pN ?_
    refine seq ?_
    refine region ?_
    refine cons (opv (Ev.move (.t rfl)) ?_)
    refine cons (opv (Ev.move (.t rfl)) ?_)
    refine cons (opv (Ev.mul_i (.c (v := I 8) rfl) (.t rfl) (fun _ => by omega)) ?_)
    refine cons (opv (Ev.sub_i (.t rfl) (.t rfl) (fun _ => by omega)) ?_)
    refine cons (opv (Ev.assign (.t rfl)) ?_)
    refine nil ?_
    refine pN ?_
    refine block ?_
    refine seq ?_
    refine region ?_
    have hk16 : k.toNat < 16 := by omega
    refine cons (opv (Ev.move (.t rfl)) ?_)
    refine cons (opv (Ev.leq_i (.t rfl) (.c (v := I 0) rfl)) ?_)
    refine cons (opv (Ev.assign (.t rfl)) ?_)
    refine nil ?_
    refine pN ?_
    first | refine condD rfl (fun hz => ?_) (fun hnz => ?_) | refine cond rfl (fun hz => ?_) (fun hnz => ?_)
    · try simp only [Bool.and_eq_true, Bool.or_eq_true, Bool.or_eq_false_iff, Bool.and_eq_false_iff, Bool.not_eq_true', Bool.not_eq_false', decide_eq_true_eq, decide_eq_false_iff_not, Decidable.not_not] at hz
      have hst : v.set k.toNat 0 hk16 = maskTo n a.b (k + 1) := by
        rw [hv, ← maskTo_step n a.b k hk.1 (by omega) hk16]
        congr 1
        unfold mk1
        rw [if_pos hz]
      refine region ?_
      refine cons (opv (Ev.move (.t rfl)) ?_)
      refine cons (opv (Ev.fieldAddr (o := 1) (.t rfl) (by kernel_rfl)) ?_)
      refine cons (opv (Ev.indexAddrA Try.underlying22 ty5 (.t rfl) (.t rfl) (fun _ => by omega)) ?_)
      refine cons (storeV ty5 (Lens.comp SAddr.l_b (lArr (n := 16) u8E _ (by omega))) (.t rfl) (.c (v := U8 0) rfl) (by repeat first | exact Upd.head | apply Upd.tail | apply Upd.right) ?_)
      refine nil ?_
      refine bN ?_
      refine bN ?_
      refine pN ?_
      refine region ?_
      refine cons (opv (Ev.add_i (.t rfl) (.c (v := I 1) rfl) (fun _ => by omega)) ?_)
      refine cons (opv (Ev.move (.t rfl)) ?_)
      refine nil ?_
      refine pN ?_
      refine next (X := Int × (Vector UInt8 16)) (k + 1, _) ⟨?_, ?_⟩ ?_ (by repeat first | exact Sub.nil | refine Sub.cons rfl ?_) (by repeat first | exact sR | exact sN | apply sC | apply sS | apply sA)
      · try dsimp only
        omega
      · try dsimp only
        exact hst
      · try dsimp only
        omega
    · try simp only [Bool.and_eq_true, Bool.or_eq_true, Bool.or_eq_false_iff, Bool.and_eq_false_iff, Bool.not_eq_true', Bool.not_eq_false', decide_eq_true_eq, decide_eq_false_iff_not, Decidable.not_not] at hnz
      refine seq ?_
      refine region ?_
      refine cons (opv (Ev.move (.t rfl)) ?_)
      refine cons (opv (Ev.lss_i (.t rfl) (.c (v := I 8) rfl)) ?_)
      refine cons (opv (Ev.assign (.t rfl)) ?_)
      refine nil ?_
      refine pN ?_
      first | refine condD rfl (fun h8 => ?_) (fun hn8 => ?_) | refine cond rfl (fun h8 => ?_) (fun hn8 => ?_)
      · try simp only [Bool.and_eq_true, Bool.or_eq_true, Bool.or_eq_false_iff, Bool.and_eq_false_iff, Bool.not_eq_true', Bool.not_eq_false', decide_eq_true_eq, decide_eq_false_iff_not, Decidable.not_not] at h8
        have hst : v.set k.toNat (v[k.toNat] &&& shl8 255 (8 - (n - 8 * k)).toNat) hk16 = maskTo n a.b (k + 1) := by
          rw [← maskTo_step n a.b k hk.1 (by omega) hk16, ← hv]
          congr 1
          unfold mk1
          rw [if_neg hnz, if_pos h8, hv, maskTo_get n a.b k hk.1 hk16]
        refine drawS 2 rfl (by repeat first | exact Rem.head | apply Rem.tail) (by kernel_rfl) ?_
        refine take 0 rfl (by kernel_rfl) (by kernel_rfl) (by kernel_rfl) (by repeat first | exact sR | exact sN | apply sC | apply sS | apply sA) (Ev.move (.t rfl)) ?_
        refine take 1 rfl (by kernel_rfl) (by kernel_rfl) (by kernel_rfl) (by repeat first | exact sR | exact sN | apply sC | apply sS | apply sA) (Ev.fieldAddr (o := 1) (.t rfl) (by kernel_rfl)) ?_
        refine take 2 rfl (by kernel_rfl) (by kernel_rfl) (by kernel_rfl) (by repeat first | exact sR | exact sN | apply sC | apply sS | apply sA) (Ev.indexAddrA Try.underlying22 ty5 (.t rfl) (.t rfl) (fun _ => by omega)) ?_
        refine take 4 rfl (by kernel_rfl) (by kernel_rfl) (by kernel_rfl) (by repeat first | exact sR | exact sN | apply sC | apply sS | apply sA) (Ev.move (.t rfl)) ?_
        refine take 5 rfl (by kernel_rfl) (by kernel_rfl) (by kernel_rfl) (by repeat first | exact sR | exact sN | apply sC | apply sS | apply sA) (Ev.sub_i (.c (v := I 8) rfl) (.t rfl) (fun _ => by omega)) ?_
        refine take 6 rfl (by kernel_rfl) (by kernel_rfl) (by kernel_rfl) (by repeat first | exact sR | exact sN | apply sC | apply sS | apply sA) (Ev.shl_u8 (.c (v := U8 255) rfl) (.t rfl) (fun _ => by omega)) ?_
        refine take 8 rfl (by kernel_rfl) (by kernel_rfl) (by kernel_rfl) (by repeat first | exact sR | exact sN | apply sC | apply sS | apply sA) (Ev.fieldAddr (o := 1) (.t rfl) (by kernel_rfl)) ?_
        refine all [3] (by kernel_rfl) (by decide) (.cons rfl ?_ .nil)
        refine (opv (Ev.load ty5 (.t rfl) (ptsVar (by repeat first | exact mH | apply mT | apply mA) (Lens.comp SAddr.l_b (lArr (n := 16) u8E _ (by omega))))) ?_)
        refine heldN_of (by repeat first | exact sR | exact sN | apply sC | apply sS | apply sA) ?_
        refine take 7 rfl (by kernel_rfl) (by kernel_rfl) (by kernel_rfl) (by repeat first | exact sR | exact sN | apply sC | apply sS | apply sA) (Ev.and_u8 (.t rfl) (.t rfl)) ?_
        refine take 9 rfl (by kernel_rfl) (by kernel_rfl) (by kernel_rfl) (by repeat first | exact sR | exact sN | apply sC | apply sS | apply sA) (Ev.indexAddrA Try.underlying22 ty5 (.t rfl) (.t rfl) (fun _ => by omega)) ?_
        refine all [10] (by kernel_rfl) (by decide) (.cons rfl ?_ .nil)
        refine (storeV ty5 (Lens.comp SAddr.l_b (lArr (n := 16) u8E _ (by omega))) (.t rfl) (.t rfl) (by repeat first | exact Upd.head | apply Upd.tail | apply Upd.right) ?_)
        refine heldN_of (by repeat first | exact sR | exact sN | apply sC | apply sS | apply sA) ?_
        refine over (by kernel_rfl) ?_
        refine bN ?_
        refine bN ?_
        refine pN ?_
        refine region ?_
        refine cons (opv (Ev.add_i (.t rfl) (.c (v := I 1) rfl) (fun _ => by omega)) ?_)
        refine cons (opv (Ev.move (.t rfl)) ?_)
        refine nil ?_
        refine pN ?_
        refine next (X := Int × (Vector UInt8 16)) (k + 1, _) ⟨?_, ?_⟩ ?_ (by repeat first | exact Sub.nil | refine Sub.cons rfl ?_) (by repeat first | exact sR | exact sN | apply sC | apply sS | apply sA)
        · try dsimp only
          omega
        · try dsimp only
          exact hst
        · try dsimp only
          omega
      · try simp only [Bool.and_eq_true, Bool.or_eq_true, Bool.or_eq_false_iff, Bool.and_eq_false_iff, Bool.not_eq_true', Bool.not_eq_false', decide_eq_true_eq, decide_eq_false_iff_not, Decidable.not_not] at hn8
        have hst : v = maskTo n a.b (k + 1) := by
          rw [hv]
          exact maskTo_skip n a.b k hk.1 (by omega) hk16 (by unfold mk1; rw [if_neg hnz, if_neg hn8])
        refine skip ?_
        refine bN ?_
        refine bN ?_
        refine pN ?_
        refine region ?_
        refine cons (opv (Ev.add_i (.t rfl) (.c (v := I 1) rfl) (fun _ => by omega)) ?_)
        refine cons (opv (Ev.move (.t rfl)) ?_)
        refine nil ?_
        refine pN ?_
        refine next (X := Int × (Vector UInt8 16)) (k + 1, _) ⟨?_, ?_⟩ ?_ (by repeat first | exact Sub.nil | refine Sub.cons rfl ?_) (by repeat first | exact sR | exact sN | apply sC | apply sS | apply sA)
        · try dsimp only
          omega
        · try dsimp only
          exact hst
        · try dsimp only
          omega
  · try simp only [Bool.and_eq_true, Bool.or_eq_true, Bool.or_eq_false_iff, Bool.and_eq_false_iff, Bool.not_eq_true', Bool.not_eq_false', decide_eq_true_eq, decide_eq_false_iff_not, Decidable.not_not] at hge
    refine exit ?_
    refine pX ?_
    refine pX ?_
    refine bX ?_
    refine pN ?_
    refine seq ?_
    refine region ?_
    refine cons (opv (Ev.load ty24 (.t rfl) (ptsVar (by repeat first | exact mH | apply mT | apply mA) (Lens.id _))) ?_)
    refine cons (storeV ty24 (Lens.id _) (.t rfl) (.t rfl) (by repeat first | exact Upd.head | apply Upd.tail | apply Upd.right) ?_)
    refine nil ?_
    refine pN ?_
    refine ret ?_
    refine done rfl (.cell rfl (fun w I => run_loadVar_pts ty24 (ptsVar (by repeat first | exact mH | apply mT | apply mA) (Lens.id _) w I)) .nil) (retE ?_)
    rw [maskTo_all n a.b k (by omega)] at hv
    rw [← hv]; rfl

theorem ty22 : TyOK Try.prog 22 (arrE 16 u8E) := TyOK.mk' (by kernel_rfl) (by kernel_rfl)

theorem en58 : Enters Try.prog 58 := Enters.mk' (by kernel_rfl)

theorem en57 : Enters Try.prog 57 := Enters.mk' (by kernel_rfl)

theorem checkA_ok (a : SAddr) (w : World) : Calls Try.prog 39 #[eAddr.val a] w (RetV w (I (checkA a))) := by
  have hw := wd_le a
  refine enter0 11 Try.func39 rfl rfl (Nat.le_of_ble_eq_true rfl) ?_
  refine seq ?_
  refine region ?_
  refine cons (box (E := eAddr) (.t rfl) (fun b1 => ?_))
  refine cons (opv (Ev.assign (.c (v := I 0) rfl)) ?_)
  refine nil ?_
  refine pN ?_
  refine seq ?_
  refine seq ?_
  refine draw' (by kernel_rfl) ?_
  refine take 0 rfl (by kernel_rfl) (by kernel_rfl) (by kernel_rfl) (by repeat first | exact sR | exact sN | apply sC | apply sS | apply sA) (Ev.load (xv := a) ty24 (.t rfl) (ptsVar (by repeat first | exact mH | apply mT | apply mA) (Lens.id _))) ?_
  refine take 1 rfl (by kernel_rfl) (by kernel_rfl) (by kernel_rfl) (by repeat first | exact sR | exact sN | apply sC | apply sS | apply sA) (Ev.load (xv := a) ty24 (.t rfl) (ptsVar (by repeat first | exact mH | apply mT | apply mA) (Lens.id _))) ?_
  refine take 5 rfl (by kernel_rfl) (by kernel_rfl) (by kernel_rfl) (by repeat first | exact sR | exact sN | apply sC | apply sS | apply sA) (Ev.fieldAddr (o := 1) (.t rfl) (by kernel_rfl)) ?_
  refine take 6 rfl (by kernel_rfl) (by kernel_rfl) (by kernel_rfl) (by repeat first | exact sR | exact sN | apply sC | apply sS | apply sA) (Ev.load (xv := a.b) ty22 (.t rfl) (ptsVar (by repeat first | exact mH | apply mT | apply mA) SAddr.l_b)) ?_
  refine all [2] (by kernel_rfl) (by decide) (.cons rfl ?_ .nil)
  refine (callv en58 (.cons (.t rfl) .nil) (fun w I => width_ok _ w) ?_)
  refine heldN_of (by repeat first | exact sR | exact sN | apply sC | apply sS | apply sA) ?_
  refine all [3] (by kernel_rfl) (by decide) (.cons rfl ?_ .nil)
  refine (callv en57 (.cons (.t rfl) (.cons (.t rfl) .nil)) (fun w I => masked_ok _ _ w (by first | omega | (simp; omega))) ?_)
  refine heldN_of (by repeat first | exact sR | exact sN | apply sC | apply sS | apply sA) ?_
  refine take 4 rfl (by kernel_rfl) (by kernel_rfl) (by kernel_rfl) (by repeat first | exact sR | exact sN | apply sC | apply sS | apply sA) (Ev.fieldS (o := 1) (e := 22) rfl (by kernel_rfl) ty22 SAddr.l_b (.t rfl)) ?_
  refine take 7 rfl (by kernel_rfl) (by kernel_rfl) (by kernel_rfl) (by repeat first | exact sR | exact sN | apply sC | apply sS | apply sA) (Ev.neqS rfl (eqok_arr Try.underlying22 ty5 (eqok_u8 Try.underlying5)) rfl (by kernel_rfl) (.t rfl) (.t rfl)) ?_
  refine over (by kernel_rfl) ?_
  refine pN ?_
  first | refine condD rfl (fun h0 => ?_) (fun h0 => ?_) | refine cond rfl (fun h0 => ?_) (fun h0 => ?_)
  · try simp only [Bool.and_eq_true, Bool.or_eq_true, Bool.or_eq_false_iff, Bool.and_eq_false_iff, Bool.not_eq_true', Bool.not_eq_false', decide_eq_true_eq, decide_eq_false_iff_not, Decidable.not_not] at h0
    refine seq ?_
    refine region ?_
    refine cons (opv (Ev.assign (.c (v := I 150) rfl)) ?_)
    refine nil ?_
    refine pN ?_
    refine ret ?_
    refine pR ?_
    refine done rfl (.tmp rfl .nil) (retE ?_)
    have hne : maskV (wd a) a.b ≠ a.b := by simpa using h0
    unfold checkA; rw [if_neg hne]; rfl
  · try simp only [Bool.and_eq_true, Bool.or_eq_true, Bool.or_eq_false_iff, Bool.and_eq_false_iff, Bool.not_eq_true', Bool.not_eq_false', decide_eq_true_eq, decide_eq_false_iff_not, Decidable.not_not] at h0
    refine skip ?_
    refine pN ?_
    refine seq ?_
    refine region ?_
    refine cons (opv (Ev.assign (.c (v := I 0) rfl)) ?_)
    refine nil ?_
    refine pN ?_
    refine ret ?_
    refine done rfl (.tmp rfl .nil) (retE ?_)
    have he : maskV (wd a) a.b = a.b := by simpa using h0
    unfold checkA; rw [if_pos he]; rfl

def SAddr.eqb (x y : SAddr) : Bool := eqd x.v6 y.v6 && ((eqA 16 eqd) x.b y.b && (true))

theorem SAddr.eqb_iff (x y : SAddr) : SAddr.eqb x y = true ↔ x = y := by
  obtain ⟨a0, a1⟩ := x
  obtain ⟨b0, b1⟩ := y
  simp only [SAddr.eqb, Bool.and_eq_true, eqd_iff, (eqA_iff eqd_iff), SAddr.mk.injEq, and_true]

theorem eqok24 : EqOK Try.prog 24 eAddr SAddr.eqb 3 := eqok_struct (fs := _) Try.underlying24 (by kernel_rfl) rfl (EqF.cons (by decide) rfl SAddr.l_v6 ty4 (fun d hd => (eqok_b Try.underlying4) d (by omega)) (EqF.cons (by decide) rfl SAddr.l_b ty22 (eqok_arr Try.underlying22 ty5 (eqok_u8 Try.underlying5)) EqF.nil)) (fun _ _ => rfl)

instance : DecidableEq SAddr := fun x y => decidable_of_iff (SAddr.eqb x y = true) (SAddr.eqb_iff x y)

@[simp] theorem SAddr.eqb_dec (x y : SAddr) : SAddr.eqb x y = decide (x = y) := by
  rw [Bool.eq_iff_iff, decide_eq_true_iff]
  exact SAddr.eqb_iff x y

theorem SAddr.eqb_self (x : SAddr) : SAddr.eqb x x = true := (SAddr.eqb_iff x x).2 rfl

structure SHeader where
  src : SAddr
  dst : SAddr
  proto : UInt8
  srcPort : UInt16
  dstPort : UInt16
  tTL : UInt8
  class_ : UInt8
  id : UInt32
  flags : UInt8
  seq : UInt32
  data : OV

def SHeader.to : (SAddr × (SAddr × (UInt8 × (UInt16 × (UInt16 × (UInt8 × (UInt8 × (UInt32 × (UInt8 × (UInt32 × OV)))))))))) → SHeader := fun x => ⟨x.1, x.2.1, x.2.2.1, x.2.2.2.1, x.2.2.2.2.1, x.2.2.2.2.2.1, x.2.2.2.2.2.2.1, x.2.2.2.2.2.2.2.1, x.2.2.2.2.2.2.2.2.1, x.2.2.2.2.2.2.2.2.2.1, x.2.2.2.2.2.2.2.2.2.2⟩

def SHeader.of : SHeader → (SAddr × (SAddr × (UInt8 × (UInt16 × (UInt16 × (UInt8 × (UInt8 × (UInt32 × (UInt8 × (UInt32 × OV)))))))))) := fun x => (x.src, x.dst, x.proto, x.srcPort, x.dstPort, x.tTL, x.class_, x.id, x.flags, x.seq, x.data)

def eHeader : Enc SHeader := isoE (prodE eAddr (prodE eAddr (prodE u8E (prodE u16E (prodE u16E (prodE u8E (prodE u8E (prodE u32E (prodE u8E (prodE u32E (ovE nilSl))))))))))) SHeader.to SHeader.of

def SHeader.l_src : Lens eHeader eAddr 0 := lIso _ SHeader.to SHeader.of (fun _ => rfl) (lFst eAddr (prodE eAddr (prodE u8E (prodE u16E (prodE u16E (prodE u8E (prodE u8E (prodE u32E (prodE u8E (prodE u32E (ovE nilSl)))))))))))

@[simp] theorem SHeader.get_src (x : SHeader) : SHeader.l_src.get x = x.src := rfl

@[simp] theorem SHeader.set_src (x : SHeader) (y : SAddr) : SHeader.l_src.set x y = { x with src := y } := rfl

def SHeader.l_dst : Lens eHeader eAddr 17 := lIso _ SHeader.to SHeader.of (fun _ => rfl) (Lens.comp (lSnd eAddr (prodE eAddr (prodE u8E (prodE u16E (prodE u16E (prodE u8E (prodE u8E (prodE u32E (prodE u8E (prodE u32E (ovE nilSl))))))))))) (lFst eAddr (prodE u8E (prodE u16E (prodE u16E (prodE u8E (prodE u8E (prodE u32E (prodE u8E (prodE u32E (ovE nilSl)))))))))))

@[simp] theorem SHeader.get_dst (x : SHeader) : SHeader.l_dst.get x = x.dst := rfl

@[simp] theorem SHeader.set_dst (x : SHeader) (y : SAddr) : SHeader.l_dst.set x y = { x with dst := y } := rfl

def SHeader.l_proto : Lens eHeader u8E 34 := lIso _ SHeader.to SHeader.of (fun _ => rfl) (Lens.comp (lSnd eAddr (prodE eAddr (prodE u8E (prodE u16E (prodE u16E (prodE u8E (prodE u8E (prodE u32E (prodE u8E (prodE u32E (ovE nilSl))))))))))) (Lens.comp (lSnd eAddr (prodE u8E (prodE u16E (prodE u16E (prodE u8E (prodE u8E (prodE u32E (prodE u8E (prodE u32E (ovE nilSl)))))))))) (lFst u8E (prodE u16E (prodE u16E (prodE u8E (prodE u8E (prodE u32E (prodE u8E (prodE u32E (ovE nilSl)))))))))))

@[simp] theorem SHeader.get_proto (x : SHeader) : SHeader.l_proto.get x = x.proto := rfl

@[simp] theorem SHeader.set_proto (x : SHeader) (y : UInt8) : SHeader.l_proto.set x y = { x with proto := y } := rfl

def SHeader.l_srcPort : Lens eHeader u16E 35 := lIso _ SHeader.to SHeader.of (fun _ => rfl) (Lens.comp (lSnd eAddr (prodE eAddr (prodE u8E (prodE u16E (prodE u16E (prodE u8E (prodE u8E (prodE u32E (prodE u8E (prodE u32E (ovE nilSl))))))))))) (Lens.comp (lSnd eAddr (prodE u8E (prodE u16E (prodE u16E (prodE u8E (prodE u8E (prodE u32E (prodE u8E (prodE u32E (ovE nilSl)))))))))) (Lens.comp (lSnd u8E (prodE u16E (prodE u16E (prodE u8E (prodE u8E (prodE u32E (prodE u8E (prodE u32E (ovE nilSl))))))))) (lFst u16E (prodE u16E (prodE u8E (prodE u8E (prodE u32E (prodE u8E (prodE u32E (ovE nilSl)))))))))))

@[simp] theorem SHeader.get_srcPort (x : SHeader) : SHeader.l_srcPort.get x = x.srcPort := rfl

@[simp] theorem SHeader.set_srcPort (x : SHeader) (y : UInt16) : SHeader.l_srcPort.set x y = { x with srcPort := y } := rfl

def SHeader.l_dstPort : Lens eHeader u16E 36 := lIso _ SHeader.to SHeader.of (fun _ => rfl) (Lens.comp (lSnd eAddr (prodE eAddr (prodE u8E (prodE u16E (prodE u16E (prodE u8E (prodE u8E (prodE u32E (prodE u8E (prodE u32E (ovE nilSl))))))))))) (Lens.comp (lSnd eAddr (prodE u8E (prodE u16E (prodE u16E (prodE u8E (prodE u8E (prodE u32E (prodE u8E (prodE u32E (ovE nilSl)))))))))) (Lens.comp (lSnd u8E (prodE u16E (prodE u16E (prodE u8E (prodE u8E (prodE u32E (prodE u8E (prodE u32E (ovE nilSl))))))))) (Lens.comp (lSnd u16E (prodE u16E (prodE u8E (prodE u8E (prodE u32E (prodE u8E (prodE u32E (ovE nilSl)))))))) (lFst u16E (prodE u8E (prodE u8E (prodE u32E (prodE u8E (prodE u32E (ovE nilSl)))))))))))

@[simp] theorem SHeader.get_dstPort (x : SHeader) : SHeader.l_dstPort.get x = x.dstPort := rfl

@[simp] theorem SHeader.set_dstPort (x : SHeader) (y : UInt16) : SHeader.l_dstPort.set x y = { x with dstPort := y } := rfl

def SHeader.l_tTL : Lens eHeader u8E 37 := lIso _ SHeader.to SHeader.of (fun _ => rfl) (Lens.comp (lSnd eAddr (prodE eAddr (prodE u8E (prodE u16E (prodE u16E (prodE u8E (prodE u8E (prodE u32E (prodE u8E (prodE u32E (ovE nilSl))))))))))) (Lens.comp (lSnd eAddr (prodE u8E (prodE u16E (prodE u16E (prodE u8E (prodE u8E (prodE u32E (prodE u8E (prodE u32E (ovE nilSl)))))))))) (Lens.comp (lSnd u8E (prodE u16E (prodE u16E (prodE u8E (prodE u8E (prodE u32E (prodE u8E (prodE u32E (ovE nilSl))))))))) (Lens.comp (lSnd u16E (prodE u16E (prodE u8E (prodE u8E (prodE u32E (prodE u8E (prodE u32E (ovE nilSl)))))))) (Lens.comp (lSnd u16E (prodE u8E (prodE u8E (prodE u32E (prodE u8E (prodE u32E (ovE nilSl))))))) (lFst u8E (prodE u8E (prodE u32E (prodE u8E (prodE u32E (ovE nilSl)))))))))))

@[simp] theorem SHeader.get_tTL (x : SHeader) : SHeader.l_tTL.get x = x.tTL := rfl

@[simp] theorem SHeader.set_tTL (x : SHeader) (y : UInt8) : SHeader.l_tTL.set x y = { x with tTL := y } := rfl

def SHeader.l_class_ : Lens eHeader u8E 38 := lIso _ SHeader.to SHeader.of (fun _ => rfl) (Lens.comp (lSnd eAddr (prodE eAddr (prodE u8E (prodE u16E (prodE u16E (prodE u8E (prodE u8E (prodE u32E (prodE u8E (prodE u32E (ovE nilSl))))))))))) (Lens.comp (lSnd eAddr (prodE u8E (prodE u16E (prodE u16E (prodE u8E (prodE u8E (prodE u32E (prodE u8E (prodE u32E (ovE nilSl)))))))))) (Lens.comp (lSnd u8E (prodE u16E (prodE u16E (prodE u8E (prodE u8E (prodE u32E (prodE u8E (prodE u32E (ovE nilSl))))))))) (Lens.comp (lSnd u16E (prodE u16E (prodE u8E (prodE u8E (prodE u32E (prodE u8E (prodE u32E (ovE nilSl)))))))) (Lens.comp (lSnd u16E (prodE u8E (prodE u8E (prodE u32E (prodE u8E (prodE u32E (ovE nilSl))))))) (Lens.comp (lSnd u8E (prodE u8E (prodE u32E (prodE u8E (prodE u32E (ovE nilSl)))))) (lFst u8E (prodE u32E (prodE u8E (prodE u32E (ovE nilSl)))))))))))

@[simp] theorem SHeader.get_class_ (x : SHeader) : SHeader.l_class_.get x = x.class_ := rfl

@[simp] theorem SHeader.set_class_ (x : SHeader) (y : UInt8) : SHeader.l_class_.set x y = { x with class_ := y } := rfl

def SHeader.l_id : Lens eHeader u32E 39 := lIso _ SHeader.to SHeader.of (fun _ => rfl) (Lens.comp (lSnd eAddr (prodE eAddr (prodE u8E (prodE u16E (prodE u16E (prodE u8E (prodE u8E (prodE u32E (prodE u8E (prodE u32E (ovE nilSl))))))))))) (Lens.comp (lSnd eAddr (prodE u8E (prodE u16E (prodE u16E (prodE u8E (prodE u8E (prodE u32E (prodE u8E (prodE u32E (ovE nilSl)))))))))) (Lens.comp (lSnd u8E (prodE u16E (prodE u16E (prodE u8E (prodE u8E (prodE u32E (prodE u8E (prodE u32E (ovE nilSl))))))))) (Lens.comp (lSnd u16E (prodE u16E (prodE u8E (prodE u8E (prodE u32E (prodE u8E (prodE u32E (ovE nilSl)))))))) (Lens.comp (lSnd u16E (prodE u8E (prodE u8E (prodE u32E (prodE u8E (prodE u32E (ovE nilSl))))))) (Lens.comp (lSnd u8E (prodE u8E (prodE u32E (prodE u8E (prodE u32E (ovE nilSl)))))) (Lens.comp (lSnd u8E (prodE u32E (prodE u8E (prodE u32E (ovE nilSl))))) (lFst u32E (prodE u8E (prodE u32E (ovE nilSl)))))))))))

@[simp] theorem SHeader.get_id (x : SHeader) : SHeader.l_id.get x = x.id := rfl

@[simp] theorem SHeader.set_id (x : SHeader) (y : UInt32) : SHeader.l_id.set x y = { x with id := y } := rfl

def SHeader.l_flags : Lens eHeader u8E 40 := lIso _ SHeader.to SHeader.of (fun _ => rfl) (Lens.comp (lSnd eAddr (prodE eAddr (prodE u8E (prodE u16E (prodE u16E (prodE u8E (prodE u8E (prodE u32E (prodE u8E (prodE u32E (ovE nilSl))))))))))) (Lens.comp (lSnd eAddr (prodE u8E (prodE u16E (prodE u16E (prodE u8E (prodE u8E (prodE u32E (prodE u8E (prodE u32E (ovE nilSl)))))))))) (Lens.comp (lSnd u8E (prodE u16E (prodE u16E (prodE u8E (prodE u8E (prodE u32E (prodE u8E (prodE u32E (ovE nilSl))))))))) (Lens.comp (lSnd u16E (prodE u16E (prodE u8E (prodE u8E (prodE u32E (prodE u8E (prodE u32E (ovE nilSl)))))))) (Lens.comp (lSnd u16E (prodE u8E (prodE u8E (prodE u32E (prodE u8E (prodE u32E (ovE nilSl))))))) (Lens.comp (lSnd u8E (prodE u8E (prodE u32E (prodE u8E (prodE u32E (ovE nilSl)))))) (Lens.comp (lSnd u8E (prodE u32E (prodE u8E (prodE u32E (ovE nilSl))))) (Lens.comp (lSnd u32E (prodE u8E (prodE u32E (ovE nilSl)))) (lFst u8E (prodE u32E (ovE nilSl)))))))))))

@[simp] theorem SHeader.get_flags (x : SHeader) : SHeader.l_flags.get x = x.flags := rfl

@[simp] theorem SHeader.set_flags (x : SHeader) (y : UInt8) : SHeader.l_flags.set x y = { x with flags := y } := rfl

def SHeader.l_seq : Lens eHeader u32E 41 := lIso _ SHeader.to SHeader.of (fun _ => rfl) (Lens.comp (lSnd eAddr (prodE eAddr (prodE u8E (prodE u16E (prodE u16E (prodE u8E (prodE u8E (prodE u32E (prodE u8E (prodE u32E (ovE nilSl))))))))))) (Lens.comp (lSnd eAddr (prodE u8E (prodE u16E (prodE u16E (prodE u8E (prodE u8E (prodE u32E (prodE u8E (prodE u32E (ovE nilSl)))))))))) (Lens.comp (lSnd u8E (prodE u16E (prodE u16E (prodE u8E (prodE u8E (prodE u32E (prodE u8E (prodE u32E (ovE nilSl))))))))) (Lens.comp (lSnd u16E (prodE u16E (prodE u8E (prodE u8E (prodE u32E (prodE u8E (prodE u32E (ovE nilSl)))))))) (Lens.comp (lSnd u16E (prodE u8E (prodE u8E (prodE u32E (prodE u8E (prodE u32E (ovE nilSl))))))) (Lens.comp (lSnd u8E (prodE u8E (prodE u32E (prodE u8E (prodE u32E (ovE nilSl)))))) (Lens.comp (lSnd u8E (prodE u32E (prodE u8E (prodE u32E (ovE nilSl))))) (Lens.comp (lSnd u32E (prodE u8E (prodE u32E (ovE nilSl)))) (Lens.comp (lSnd u8E (prodE u32E (ovE nilSl))) (lFst u32E (ovE nilSl)))))))))))

@[simp] theorem SHeader.get_seq (x : SHeader) : SHeader.l_seq.get x = x.seq := rfl

@[simp] theorem SHeader.set_seq (x : SHeader) (y : UInt32) : SHeader.l_seq.set x y = { x with seq := y } := rfl

def SHeader.l_data : Lens eHeader (ovE nilSl) 42 := lIso _ SHeader.to SHeader.of (fun _ => rfl) (Lens.comp (lSnd eAddr (prodE eAddr (prodE u8E (prodE u16E (prodE u16E (prodE u8E (prodE u8E (prodE u32E (prodE u8E (prodE u32E (ovE nilSl))))))))))) (Lens.comp (lSnd eAddr (prodE u8E (prodE u16E (prodE u16E (prodE u8E (prodE u8E (prodE u32E (prodE u8E (prodE u32E (ovE nilSl)))))))))) (Lens.comp (lSnd u8E (prodE u16E (prodE u16E (prodE u8E (prodE u8E (prodE u32E (prodE u8E (prodE u32E (ovE nilSl))))))))) (Lens.comp (lSnd u16E (prodE u16E (prodE u8E (prodE u8E (prodE u32E (prodE u8E (prodE u32E (ovE nilSl)))))))) (Lens.comp (lSnd u16E (prodE u8E (prodE u8E (prodE u32E (prodE u8E (prodE u32E (ovE nilSl))))))) (Lens.comp (lSnd u8E (prodE u8E (prodE u32E (prodE u8E (prodE u32E (ovE nilSl)))))) (Lens.comp (lSnd u8E (prodE u32E (prodE u8E (prodE u32E (ovE nilSl))))) (Lens.comp (lSnd u32E (prodE u8E (prodE u32E (ovE nilSl)))) (Lens.comp (lSnd u8E (prodE u32E (ovE nilSl))) (Lens.comp (lSnd u32E (ovE nilSl)) (Lens.id (ovE nilSl))))))))))))

@[simp] theorem SHeader.get_data (x : SHeader) : SHeader.l_data.get x = x.data := rfl

@[simp] theorem SHeader.set_data (x : SHeader) (y : OV) : SHeader.l_data.set x y = { x with data := y } := rfl

/-- How many bytes the front has. -/
def frontN (h : SHeader) : Int := bif h.src.v6 then 40 else 20
/-- How many bytes the middle has. -/
def midN (p : UInt8) : Int := if p = 6 then 20 else if p = 17 then 8 else 0
/-- Where the sum stands behind the front. -/
def atN (p : UInt8) : Int := if p = 6 then 16 else 6
/-- May it be (n: how much Data there is)? -/
def checkH (h : SHeader) (n : Int) : Int :=
  if checkA h.src ≠ 0 ∨ checkA h.dst ≠ 0 ∨ h.src.v6 ≠ h.dst.v6 ∨ (bif h.src.v6 then 1048575 else 65535) < h.id then 2
  else if midN h.proto = 0 ∧ (h.srcPort ≠ 0 ∨ h.dstPort ≠ 0) ∨ h.proto ≠ 6 ∧ (h.flags ≠ 0 ∨ h.seq ≠ 0) then 2
  else if 2048 < frontN h + midN h.proto + n then 4 else 0
/-- The bytes of an address. -/
def addrB (a : SAddr) : List UInt8 := a.b.toList.take (bif a.v6 then 16 else 4)

theorem front_ok (h : SHeader) (w : World) : Calls Try.prog 40 #[eHeader.val h] w (RetV w (I (frontN h))) := by
  refine enter0 6 Try.func40 rfl rfl (Nat.le_of_ble_eq_true rfl) ?_
  refine seq ?_
  refine region ?_
  refine cons (box (E := eHeader) (.t rfl) (fun b1 => ?_))
  refine cons (opv (Ev.assign (.c (v := I 0) rfl)) ?_)
  refine nil ?_
  refine pN ?_
  refine seq ?_
  refine seq ?_
  refine region ?_
  refine cons (opv (Ev.fieldAddr (o := 0) (.t rfl) (by kernel_rfl)) ?_)
  refine cons (opv (Ev.fieldAddr (o := 0) (.t rfl) (by kernel_rfl)) ?_)
  refine cons (opv (Ev.load (xv := h.src.v6) ty4 (.t rfl) (ptsVar (by repeat first | exact mH | apply mT | apply mA) (Lens.comp SHeader.l_src SAddr.l_v6))) ?_)
  refine nil ?_
  refine pN ?_
  first | refine condD rfl (fun h0 => ?_) (fun h0 => ?_) | refine cond rfl (fun h0 => ?_) (fun h0 => ?_)
  · try simp only [Bool.and_eq_true, Bool.or_eq_true, Bool.or_eq_false_iff, Bool.and_eq_false_iff, Bool.not_eq_true', Bool.not_eq_false', decide_eq_true_eq, decide_eq_false_iff_not, Decidable.not_not] at h0
    refine seq ?_
    refine region ?_
    refine cons (opv (Ev.assign (.c (v := I 40) rfl)) ?_)
    refine nil ?_
    refine pN ?_
    refine ret ?_
    refine pR ?_
    refine done rfl (.tmp rfl .nil) (retE ?_)
    first | rfl | simp [frontN, *]
  · try simp only [Bool.and_eq_true, Bool.or_eq_true, Bool.or_eq_false_iff, Bool.and_eq_false_iff, Bool.not_eq_true', Bool.not_eq_false', decide_eq_true_eq, decide_eq_false_iff_not, Decidable.not_not] at h0
    refine skip ?_
    refine pN ?_
    refine seq ?_
    refine region ?_
    refine cons (opv (Ev.assign (.c (v := I 20) rfl)) ?_)
    refine nil ?_
    refine pN ?_
    refine ret ?_
    refine done rfl (.tmp rfl .nil) (retE ?_)
    first | rfl | simp [frontN, *]

theorem rfront_ok (h : SHeader) (w : World) : Calls Try.prog 32 #[eHeader.val h] w (RetV w (I (frontN h))) := by
  refine enter0 6 Try.func32 rfl rfl (Nat.le_of_ble_eq_true rfl) ?_
  refine seq ?_
  refine region ?_
  refine cons (box (E := eHeader) (.t rfl) (fun b1 => ?_))
  refine cons (opv (Ev.assign (.c (v := I 0) rfl)) ?_)
  refine nil ?_
  refine pN ?_
  refine seq ?_
  refine seq ?_
  refine region ?_
  refine cons (opv (Ev.fieldAddr (o := 0) (.t rfl) (by kernel_rfl)) ?_)
  refine cons (opv (Ev.fieldAddr (o := 0) (.t rfl) (by kernel_rfl)) ?_)
  refine cons (opv (Ev.load (xv := h.src.v6) ty4 (.t rfl) (ptsVar (by repeat first | exact mH | apply mT | apply mA) (Lens.comp SHeader.l_src SAddr.l_v6))) ?_)
  refine nil ?_
  refine pN ?_
  first | refine condD rfl (fun h0 => ?_) (fun h0 => ?_) | refine cond rfl (fun h0 => ?_) (fun h0 => ?_)
  · try simp only [Bool.and_eq_true, Bool.or_eq_true, Bool.or_eq_false_iff, Bool.and_eq_false_iff, Bool.not_eq_true', Bool.not_eq_false', decide_eq_true_eq, decide_eq_false_iff_not, Decidable.not_not] at h0
    refine seq ?_
    refine region ?_
    refine cons (opv (Ev.assign (.c (v := I 40) rfl)) ?_)
    refine nil ?_
    refine pN ?_
    refine ret ?_
    refine pR ?_
    refine done rfl (.tmp rfl .nil) (retE ?_)
    first | rfl | simp [frontN, *]
  · try simp only [Bool.and_eq_true, Bool.or_eq_true, Bool.or_eq_false_iff, Bool.and_eq_false_iff, Bool.not_eq_true', Bool.not_eq_false', decide_eq_true_eq, decide_eq_false_iff_not, Decidable.not_not] at h0
    refine skip ?_
    refine pN ?_
    refine seq ?_
    refine region ?_
    refine cons (opv (Ev.assign (.c (v := I 20) rfl)) ?_)
    refine nil ?_
    refine pN ?_
    refine ret ?_
    refine done rfl (.tmp rfl .nil) (retE ?_)
    first | rfl | simp [frontN, *]

theorem ty29 : TyOK Try.prog 29 eHeader := TyOK.mk' (by kernel_rfl) (by kernel_rfl)

theorem en32 : Enters Try.prog 32 := Enters.mk' (by kernel_rfl)

theorem rFront_ok (h : SHeader) (w : World) : Calls Try.prog 23 #[eHeader.val h] w (RetV w (I (frontN h))) := by
  refine enter0 5 Try.func23 rfl rfl (Nat.le_of_ble_eq_true rfl) ?_
  refine seq ?_
  refine region ?_
  refine cons (box (E := eHeader) (.t rfl) (fun b1 => ?_))
  refine cons (opv (Ev.assign (.c (v := I 0) rfl)) ?_)
  refine nil ?_
  refine pN ?_
  refine seq ?_
  refine region ?_
  refine cons (opv (Ev.load (xv := h) ty29 (.t rfl) (ptsVar (by repeat first | exact mH | apply mT | apply mA) (Lens.id _))) ?_)
  refine cons (callv en32 (.cons (.t rfl) .nil) (fun w I => rfront_ok _ w) ?_)
  refine cons (opv (Ev.assign (.t rfl)) ?_)
  refine nil ?_
  refine pN ?_
  refine ret ?_
  refine done rfl (.tmp rfl .nil) (retE ?_)
  first | rfl | simp [frontN, *]

theorem middle_ok (p : UInt8) (w : World) : Calls Try.prog 34 #[U8 p] w (RetV w (I (midN p))) := by
  refine enter0 8 Try.func34 rfl rfl (Nat.le_of_ble_eq_true rfl) ?_
  refine seq ?_
  refine region ?_
  refine cons (opv (Ev.assign (.c (v := I 0) rfl)) ?_)
  refine nil ?_
  refine pN ?_
  refine seq ?_
  refine seq ?_
  refine region ?_
  refine cons (opv (Ev.move (.t rfl)) ?_)
  refine nil ?_
  refine pN ?_
  refine block ?_
  refine seq ?_
  refine region ?_
  refine cons (opv (Ev.eql_u8 (.t rfl) (.c (v := U8 6) rfl)) ?_)
  refine cons (opv (Ev.assign (.t rfl)) ?_)
  refine nil ?_
  refine pN ?_
  first | refine condD rfl (fun h0 => ?_) (fun h0 => ?_) | refine cond rfl (fun h0 => ?_) (fun h0 => ?_)
  · try simp only [Bool.and_eq_true, Bool.or_eq_true, Bool.or_eq_false_iff, Bool.and_eq_false_iff, Bool.not_eq_true', Bool.not_eq_false', decide_eq_true_eq, decide_eq_false_iff_not, Decidable.not_not] at h0
    refine seq ?_
    refine region ?_
    refine cons (opv (Ev.assign (.c (v := I 20) rfl)) ?_)
    refine nil ?_
    refine pN ?_
    refine ret ?_
    refine bR ?_
    refine pR ?_
    refine done rfl (.tmp rfl .nil) (retE ?_)
    simp [midN, *]
  · try simp only [Bool.and_eq_true, Bool.or_eq_true, Bool.or_eq_false_iff, Bool.and_eq_false_iff, Bool.not_eq_true', Bool.not_eq_false', decide_eq_true_eq, decide_eq_false_iff_not, Decidable.not_not] at h0
    refine seq ?_
    refine region ?_
    refine cons (opv (Ev.eql_u8 (.t rfl) (.c (v := U8 17) rfl)) ?_)
    refine cons (opv (Ev.assign (.t rfl)) ?_)
    refine nil ?_
    refine pN ?_
    first | refine condD rfl (fun h1 => ?_) (fun h1 => ?_) | refine cond rfl (fun h1 => ?_) (fun h1 => ?_)
    · try simp only [Bool.and_eq_true, Bool.or_eq_true, Bool.or_eq_false_iff, Bool.and_eq_false_iff, Bool.not_eq_true', Bool.not_eq_false', decide_eq_true_eq, decide_eq_false_iff_not, Decidable.not_not] at h1
      refine seq ?_
      refine region ?_
      refine cons (opv (Ev.assign (.c (v := I 8) rfl)) ?_)
      refine nil ?_
      refine pN ?_
      refine ret ?_
      refine bR ?_
      refine pR ?_
      refine done rfl (.tmp rfl .nil) (retE ?_)
      simp [midN, *]
    · try simp only [Bool.and_eq_true, Bool.or_eq_true, Bool.or_eq_false_iff, Bool.and_eq_false_iff, Bool.not_eq_true', Bool.not_eq_false', decide_eq_true_eq, decide_eq_false_iff_not, Decidable.not_not] at h1
      refine skip ?_
      refine bN ?_
      refine pN ?_
      refine seq ?_
      refine region ?_
      refine cons (opv (Ev.assign (.c (v := I 0) rfl)) ?_)
      refine nil ?_
      refine pN ?_
      refine ret ?_
      refine done rfl (.tmp rfl .nil) (retE ?_)
      simp [midN, *]

theorem rmiddle_ok (p : UInt8) (w : World) : Calls Try.prog 31 #[U8 p] w (RetV w (I (midN p))) := by
  refine enter0 8 Try.func31 rfl rfl (Nat.le_of_ble_eq_true rfl) ?_
  refine seq ?_
  refine region ?_
  refine cons (opv (Ev.assign (.c (v := I 0) rfl)) ?_)
  refine nil ?_
  refine pN ?_
  refine seq ?_
  refine seq ?_
  refine region ?_
  refine cons (opv (Ev.move (.t rfl)) ?_)
  refine nil ?_
  refine pN ?_
  refine block ?_
  refine seq ?_
  refine region ?_
  refine cons (opv (Ev.eql_u8 (.t rfl) (.c (v := U8 6) rfl)) ?_)
  refine cons (opv (Ev.assign (.t rfl)) ?_)
  refine nil ?_
  refine pN ?_
  first | refine condD rfl (fun h0 => ?_) (fun h0 => ?_) | refine cond rfl (fun h0 => ?_) (fun h0 => ?_)
  · try simp only [Bool.and_eq_true, Bool.or_eq_true, Bool.or_eq_false_iff, Bool.and_eq_false_iff, Bool.not_eq_true', Bool.not_eq_false', decide_eq_true_eq, decide_eq_false_iff_not, Decidable.not_not] at h0
    refine seq ?_
    refine region ?_
    refine cons (opv (Ev.assign (.c (v := I 20) rfl)) ?_)
    refine nil ?_
    refine pN ?_
    refine ret ?_
    refine bR ?_
    refine pR ?_
    refine done rfl (.tmp rfl .nil) (retE ?_)
    simp [midN, *]
  · try simp only [Bool.and_eq_true, Bool.or_eq_true, Bool.or_eq_false_iff, Bool.and_eq_false_iff, Bool.not_eq_true', Bool.not_eq_false', decide_eq_true_eq, decide_eq_false_iff_not, Decidable.not_not] at h0
    refine seq ?_
    refine region ?_
    refine cons (opv (Ev.eql_u8 (.t rfl) (.c (v := U8 17) rfl)) ?_)
    refine cons (opv (Ev.assign (.t rfl)) ?_)
    refine nil ?_
    refine pN ?_
    first | refine condD rfl (fun h1 => ?_) (fun h1 => ?_) | refine cond rfl (fun h1 => ?_) (fun h1 => ?_)
    · try simp only [Bool.and_eq_true, Bool.or_eq_true, Bool.or_eq_false_iff, Bool.and_eq_false_iff, Bool.not_eq_true', Bool.not_eq_false', decide_eq_true_eq, decide_eq_false_iff_not, Decidable.not_not] at h1
      refine seq ?_
      refine region ?_
      refine cons (opv (Ev.assign (.c (v := I 8) rfl)) ?_)
      refine nil ?_
      refine pN ?_
      refine ret ?_
      refine bR ?_
      refine pR ?_
      refine done rfl (.tmp rfl .nil) (retE ?_)
      simp [midN, *]
    · try simp only [Bool.and_eq_true, Bool.or_eq_true, Bool.or_eq_false_iff, Bool.and_eq_false_iff, Bool.not_eq_true', Bool.not_eq_false', decide_eq_true_eq, decide_eq_false_iff_not, Decidable.not_not] at h1
      refine skip ?_
      refine bN ?_
      refine pN ?_
      refine seq ?_
      refine region ?_
      refine cons (opv (Ev.assign (.c (v := I 0) rfl)) ?_)
      refine nil ?_
      refine pN ?_
      refine ret ?_
      refine done rfl (.tmp rfl .nil) (retE ?_)
      simp [midN, *]

theorem at_ok (p : UInt8) (w : World) : Calls Try.prog 36 #[U8 p] w (RetV w (I (atN p))) := by
  refine enter0 5 Try.func36 rfl rfl (Nat.le_of_ble_eq_true rfl) ?_
  refine seq ?_
  refine region ?_
  refine cons (opv (Ev.assign (.c (v := I 0) rfl)) ?_)
  refine nil ?_
  refine pN ?_
  refine seq ?_
  refine seq ?_
  refine region ?_
  refine cons (opv (Ev.move (.t rfl)) ?_)
  refine cons (opv (Ev.eql_u8 (.t rfl) (.c (v := U8 6) rfl)) ?_)
  refine nil ?_
  refine pN ?_
  first | refine condD rfl (fun h0 => ?_) (fun h0 => ?_) | refine cond rfl (fun h0 => ?_) (fun h0 => ?_)
  · try simp only [Bool.and_eq_true, Bool.or_eq_true, Bool.or_eq_false_iff, Bool.and_eq_false_iff, Bool.not_eq_true', Bool.not_eq_false', decide_eq_true_eq, decide_eq_false_iff_not, Decidable.not_not] at h0
    refine seq ?_
    refine region ?_
    refine cons (opv (Ev.assign (.c (v := I 16) rfl)) ?_)
    refine nil ?_
    refine pN ?_
    refine ret ?_
    refine pR ?_
    refine done rfl (.tmp rfl .nil) (retE ?_)
    simp [atN, *]
  · try simp only [Bool.and_eq_true, Bool.or_eq_true, Bool.or_eq_false_iff, Bool.and_eq_false_iff, Bool.not_eq_true', Bool.not_eq_false', decide_eq_true_eq, decide_eq_false_iff_not, Decidable.not_not] at h0
    refine skip ?_
    refine pN ?_
    refine seq ?_
    refine region ?_
    refine cons (opv (Ev.assign (.c (v := I 6) rfl)) ?_)
    refine nil ?_
    refine pN ?_
    refine ret ?_
    refine done rfl (.tmp rfl .nil) (retE ?_)
    simp [atN, *]

theorem equal_ok (u v : Value) (a b : List UInt8) (w : World) (ha : IsSl u8E w u a) (hb : IsSl u8E w v b) : Calls Try.prog 48 #[u, v] w (RetV w (.bool (decide (a = b)))) := by
  refine enter0 10 Try.func48 rfl rfl (Nat.le_of_ble_eq_true rfl) ?_
  refine seq ?_
  refine region ?_
  refine cons (opv (Ev.assign (.c (v := .bool false) rfl)) ?_)
  refine nil ?_
  refine pN ?_
  refine seq ?_
  refine region ?_
  refine cons (opv (Ev.move (.t rfl)) ?_)
  refine cons (opv (Ev.convBS Try.underlying27 Try.underlying5 Try.underlying9 (.t rfl) (by first | exact isSl_own (by repeat first | exact mH | apply mT | apply mA) | exact fun w I => IsSl.keep0 (by assumption) I.keeps)) ?_)
  refine cons (opv (Ev.move (.t rfl)) ?_)
  refine cons (opv (Ev.convBS Try.underlying27 Try.underlying5 Try.underlying9 (.t rfl) (by first | exact isSl_own (by repeat first | exact mH | apply mT | apply mA) | exact fun w I => IsSl.keep0 (by assumption) I.keeps)) ?_)
  refine cons (opv (Ev.eql_str (.t rfl) (.t rfl)) ?_)
  refine cons (opv (Ev.assign (.t rfl)) ?_)
  refine nil ?_
  refine pN ?_
  refine ret ?_
  refine done rfl (.tmp rfl .nil) (retE ?_)
  rfl

theorem en34 : Enters Try.prog 34 := Enters.mk' (by kernel_rfl)

theorem en39 : Enters Try.prog 39 := Enters.mk' (by kernel_rfl)

theorem ty25 : TyOK Try.prog 25 u16E := TyOK.mk' (by kernel_rfl) (by kernel_rfl)

theorem en40 : Enters Try.prog 40 := Enters.mk' (by kernel_rfl)

theorem ty26 : TyOK Try.prog 26 u32E := TyOK.mk' (by kernel_rfl) (by kernel_rfl)

theorem check_ok (h : SHeader) (d : List UInt8) (w : World) (hd : IsSl u8E w h.data.v d) (hl : d.length ≤ 1152921504606846975) : Calls Try.prog 14 #[eHeader.val h] w (RetV w (I (checkH h d.length))) := by
  have hfl : 0 ≤ frontN h ∧ frontN h ≤ 40 := by unfold frontN; cases h.src.v6 <;> decide
  have hml : 0 ≤ midN h.proto ∧ midN h.proto ≤ 20 := by unfold midN; split <;> (try split) <;> decide
  refine enter0 67 Try.func14 rfl rfl (Nat.le_of_ble_eq_true rfl) ?_
  refine seq ?_
  refine region ?_
  refine cons (box (E := eHeader) (.t rfl) (fun b1 => ?_))
  refine cons (opv (Ev.assign (.c (v := I 0) rfl)) ?_)
  refine nil ?_
  refine pN ?_
  refine seq ?_
  refine region ?_
  refine cons (opv (Ev.assign (.c (v := U32 65535) rfl)) ?_)
  refine nil ?_
  refine pN ?_
  refine seq ?_
  refine seq ?_
  refine region ?_
  refine cons (opv (Ev.fieldAddr (o := 0) (.t rfl) (by kernel_rfl)) ?_)
  refine cons (opv (Ev.fieldAddr (o := 0) (.t rfl) (by kernel_rfl)) ?_)
  refine cons (opv (Ev.load (xv := h.src.v6) ty4 (.t rfl) (ptsVar (by repeat first | exact mH | apply mT | apply mA) (Lens.comp SHeader.l_src SAddr.l_v6))) ?_)
  refine nil ?_
  refine pN ?_
  first | refine condD rfl (fun h0 => ?_) (fun h0 => ?_) | refine cond rfl (fun h0 => ?_) (fun h0 => ?_)
  · try simp only [Bool.and_eq_true, Bool.or_eq_true, Bool.or_eq_false_iff, Bool.and_eq_false_iff, Bool.not_eq_true', Bool.not_eq_false', decide_eq_true_eq, decide_eq_false_iff_not, Decidable.not_not] at h0
    refine region ?_
    refine cons (opv (Ev.assign (.c (v := U32 1048575) rfl)) ?_)
    refine nil ?_
    refine pN ?_
    refine seq ?_
    refine region ?_
    refine cons (opv (Ev.fieldAddr (o := 34) (.t rfl) (by kernel_rfl)) ?_)
    refine cons (opv (Ev.load (xv := h.proto) ty5 (.t rfl) (ptsVar (by repeat first | exact mH | apply mT | apply mA) SHeader.l_proto)) ?_)
    refine cons (callv en34 (.cons (.t rfl) .nil) (fun w I => middle_ok _ w) ?_)
    refine cons (opv (Ev.assign (.t rfl)) ?_)
    refine nil ?_
    refine pN ?_
    refine seq ?_
    refine block ?_
    refine seq ?_
    refine seq ?_
    refine region ?_
    refine cons (opv (Ev.fieldAddr (o := 0) (.t rfl) (by kernel_rfl)) ?_)
    refine cons (opv (Ev.load (xv := h.src) ty24 (.t rfl) (ptsVar (by repeat first | exact mH | apply mT | apply mA) SHeader.l_src)) ?_)
    refine cons (callv en39 (.cons (.t rfl) .nil) (fun w I => checkA_ok _ w) ?_)
    refine cons (opv (Ev.neq_i (.t rfl) (.c (v := I 0) rfl)) ?_)
    refine cons (opv (Ev.assign (.t rfl)) ?_)
    refine nil ?_
    refine pN ?_
    first | refine condD rfl (fun h1 => ?_) (fun h1 => ?_) | refine cond rfl (fun h1 => ?_) (fun h1 => ?_)
    · try simp only [Bool.and_eq_true, Bool.or_eq_true, Bool.or_eq_false_iff, Bool.and_eq_false_iff, Bool.not_eq_true', Bool.not_eq_false', decide_eq_true_eq, decide_eq_false_iff_not, Decidable.not_not] at h1
      refine skip ?_
      refine pN ?_
      first | refine condD rfl (fun h4 => ?_) (fun h4 => ?_) | refine cond rfl (fun h4 => ?_) (fun h4 => ?_)
      · try simp only [Bool.and_eq_true, Bool.or_eq_true, Bool.or_eq_false_iff, Bool.and_eq_false_iff, Bool.not_eq_true', Bool.not_eq_false', decide_eq_true_eq, decide_eq_false_iff_not, Decidable.not_not] at h4
        refine seq ?_
        refine region ?_
        refine cons (opv (Ev.assign (.c (v := I 2) rfl)) ?_)
        refine nil ?_
        refine pN ?_
        refine ret ?_
        refine bR ?_
        refine pR ?_
        refine done rfl (.tmp rfl .nil) (retE ?_)
        unfold checkH
        first
          | (simp_all; done)
          | (have hA : ¬ (checkA h.src ≠ 0 ∨ checkA h.dst ≠ 0 ∨ h.src.v6 ≠ h.dst.v6 ∨ (bif h.src.v6 then 1048575 else 65535) < h.id) := by simp_all
             rw [if_neg hA]
             simp_all; done)
      · try simp only [Bool.and_eq_true, Bool.or_eq_true, Bool.or_eq_false_iff, Bool.and_eq_false_iff, Bool.not_eq_true', Bool.not_eq_false', decide_eq_true_eq, decide_eq_false_iff_not, Decidable.not_not] at h4
        refine seq ?_
        refine seq ?_
        refine region ?_
        refine cons (opv (Ev.move (.t rfl)) ?_)
        refine cons (opv (Ev.eql_i (.t rfl) (.c (v := I 0) rfl)) ?_)
        refine cons (opv (Ev.move (.t rfl)) ?_)
        refine cons (opg rfl rfl (Ev.fieldAddr (o := 35) (.t rfl) (by kernel_rfl)) ?_)
        refine cons (opg rfl rfl (Ev.load (xv := h.srcPort) ty25 (.g rfl id) (ptsVar (by repeat first | exact mH | apply mT | apply mA) SHeader.l_srcPort)) ?_)
        refine cons (opg rfl rfl (Ev.neq_u16 (.g rfl id) (.c (v := U16 0) rfl)) ?_)
        refine cons (opg rfl rfl (Ev.move (.g rfl id)) ?_)
        refine cons (opg rfl rfl (Ev.fieldAddr (o := 36) (.t rfl) (by kernel_rfl)) ?_)
        refine cons (opg rfl rfl (Ev.load (xv := h.dstPort) ty25 (.g rfl id) (ptsVar (by repeat first | exact mH | apply mT | apply mA) SHeader.l_dstPort)) ?_)
        refine cons (opg rfl rfl (Ev.neq_u16 (.g rfl id) (.c (v := U16 0) rfl)) ?_)
        refine cons (opg rfl rfl (Ev.pickO (.g rfl id) (.c (v := .bool true) rfl) (fun {_} h => by cases h; rfl) ⟨_, rfl⟩ (by intro h1 h; first | (rw [h] <;> rfl) | (rw [h1, h] <;> rfl) | (rw [h, h1] <;> rfl) | simp_all)) ?_)
        refine cons (opv (Ev.pickA (.t rfl) (fun {_} h => by cases h; rfl) ⟨_, rfl⟩ (by intro h1 h; first | (rw [h] <;> rfl) | (rw [h1, h] <;> rfl) | (rw [h, h1] <;> rfl) | simp_all) (.c (v := .bool false) rfl)) ?_)
        refine cons (opv (Ev.assign (.t rfl)) ?_)
        refine nil ?_
        refine pN ?_
        first | refine condD rfl (fun h5 => ?_) (fun h5 => ?_) | refine cond rfl (fun h5 => ?_) (fun h5 => ?_)
        · try simp only [Bool.and_eq_true, Bool.or_eq_true, Bool.or_eq_false_iff, Bool.and_eq_false_iff, Bool.not_eq_true', Bool.not_eq_false', decide_eq_true_eq, decide_eq_false_iff_not, Decidable.not_not] at h5
          refine skip ?_
          refine pN ?_
          first | refine condD rfl (fun h6 => ?_) (fun h6 => ?_) | refine cond rfl (fun h6 => ?_) (fun h6 => ?_)
          · try simp only [Bool.and_eq_true, Bool.or_eq_true, Bool.or_eq_false_iff, Bool.and_eq_false_iff, Bool.not_eq_true', Bool.not_eq_false', decide_eq_true_eq, decide_eq_false_iff_not, Decidable.not_not] at h6
            refine seq ?_
            refine region ?_
            refine cons (opv (Ev.assign (.c (v := I 2) rfl)) ?_)
            refine nil ?_
            refine pN ?_
            refine ret ?_
            refine bR ?_
            refine pR ?_
            refine done rfl (.tmp rfl .nil) (retE ?_)
            unfold checkH
            first
              | (simp_all; done)
              | (have hA : ¬ (checkA h.src ≠ 0 ∨ checkA h.dst ≠ 0 ∨ h.src.v6 ≠ h.dst.v6 ∨ (bif h.src.v6 then 1048575 else 65535) < h.id) := by simp_all
                 rw [if_neg hA]
                 simp_all; done)
          · try simp only [Bool.and_eq_true, Bool.or_eq_true, Bool.or_eq_false_iff, Bool.and_eq_false_iff, Bool.not_eq_true', Bool.not_eq_false', decide_eq_true_eq, decide_eq_false_iff_not, Decidable.not_not] at h6
            refine seq ?_
            refine draw' (by kernel_rfl) ?_
            refine take 0 rfl (by kernel_rfl) (by kernel_rfl) (by kernel_rfl) (by repeat first | exact sR | exact sN | apply sC | apply sS | apply sA) (Ev.load (xv := h) ty29 (.t rfl) (ptsVar (by repeat first | exact mH | apply mT | apply mA) (Lens.id _))) ?_
            refine take 2 rfl (by kernel_rfl) (by kernel_rfl) (by kernel_rfl) (by repeat first | exact sR | exact sN | apply sC | apply sS | apply sA) (Ev.move (.t rfl)) ?_
            refine take 4 rfl (by kernel_rfl) (by kernel_rfl) (by kernel_rfl) (by repeat first | exact sR | exact sN | apply sC | apply sS | apply sA) (Ev.fieldAddr (o := 42) (.t rfl) (by kernel_rfl)) ?_
            refine take 5 rfl (by kernel_rfl) (by kernel_rfl) (by kernel_rfl) (by repeat first | exact sR | exact sN | apply sC | apply sS | apply sA) (Ev.load (xv := h.data) ty27 (.t rfl) (ptsVar (by repeat first | exact mH | apply mT | apply mA) SHeader.l_data)) ?_
            refine take 6 rfl (by kernel_rfl) (by kernel_rfl) (by kernel_rfl) (by repeat first | exact sR | exact sN | apply sC | apply sS | apply sA) (Ev.len Try.underlying27 (.t rfl) (fun w I => hd.keep0 I.keeps)) ?_
            refine all [1] (by kernel_rfl) (by decide) (.cons rfl ?_ .nil)
            refine (callv en40 (.cons (.t rfl) .nil) (fun w I => front_ok _ w) ?_)
            refine heldN_of (by repeat first | exact sR | exact sN | apply sC | apply sS | apply sA) ?_
            refine take 3 rfl (by kernel_rfl) (by kernel_rfl) (by kernel_rfl) (by repeat first | exact sR | exact sN | apply sC | apply sS | apply sA) (Ev.add_i (.t rfl) (.t rfl) (fun _ => by omega)) ?_
            refine take 7 rfl (by kernel_rfl) (by kernel_rfl) (by kernel_rfl) (by repeat first | exact sR | exact sN | apply sC | apply sS | apply sA) (Ev.add_i (.t rfl) (.t rfl) (fun _ => by omega)) ?_
            refine take 8 rfl (by kernel_rfl) (by kernel_rfl) (by kernel_rfl) (by repeat first | exact sR | exact sN | apply sC | apply sS | apply sA) (Ev.gtr_i (.t rfl) (.c (v := I 2048) rfl)) ?_
            refine take 9 rfl (by kernel_rfl) (by kernel_rfl) (by kernel_rfl) (by repeat first | exact sR | exact sN | apply sC | apply sS | apply sA) (Ev.assign (.t rfl)) ?_
            refine over (by kernel_rfl) ?_
            refine pN ?_
            first | refine condD rfl (fun h7 => ?_) (fun h7 => ?_) | refine cond rfl (fun h7 => ?_) (fun h7 => ?_)
            · try simp only [Bool.and_eq_true, Bool.or_eq_true, Bool.or_eq_false_iff, Bool.and_eq_false_iff, Bool.not_eq_true', Bool.not_eq_false', decide_eq_true_eq, decide_eq_false_iff_not, Decidable.not_not] at h7
              refine seq ?_
              refine region ?_
              refine cons (opv (Ev.assign (.c (v := I 4) rfl)) ?_)
              refine nil ?_
              refine pN ?_
              refine ret ?_
              refine bR ?_
              refine pR ?_
              refine done rfl (.tmp rfl .nil) (retE ?_)
              first
                | (exfalso; simp_all; done)
                | (have hA : ¬ (checkA h.src ≠ 0 ∨ checkA h.dst ≠ 0 ∨ h.src.v6 ≠ h.dst.v6 ∨ (bif h.src.v6 then 1048575 else 65535) < h.id) := by simp_all
                   have hB : ¬ (midN h.proto = 0 ∧ (h.srcPort ≠ 0 ∨ h.dstPort ≠ 0) ∨ h.proto ≠ 6 ∧ (h.flags ≠ 0 ∨ h.seq ≠ 0)) := by
                     intro hc
                     rcases hc with hc | hc <;> simp_all
                   unfold checkH
                   rw [if_neg hA, if_neg hB]
                   first
                     | (rw [if_pos (by omega)]; rfl)
                     | (rw [if_neg (by omega)]; rfl))
            · try simp only [Bool.and_eq_true, Bool.or_eq_true, Bool.or_eq_false_iff, Bool.and_eq_false_iff, Bool.not_eq_true', Bool.not_eq_false', decide_eq_true_eq, decide_eq_false_iff_not, Decidable.not_not] at h7
              refine skip ?_
              refine bN ?_
              refine pN ?_
              refine seq ?_
              refine region ?_
              refine cons (opv (Ev.assign (.c (v := I 0) rfl)) ?_)
              refine nil ?_
              refine pN ?_
              refine ret ?_
              refine done rfl (.tmp rfl .nil) (retE ?_)
              first
                | (exfalso; simp_all; done)
                | (have hA : ¬ (checkA h.src ≠ 0 ∨ checkA h.dst ≠ 0 ∨ h.src.v6 ≠ h.dst.v6 ∨ (bif h.src.v6 then 1048575 else 65535) < h.id) := by simp_all
                   have hB : ¬ (midN h.proto = 0 ∧ (h.srcPort ≠ 0 ∨ h.dstPort ≠ 0) ∨ h.proto ≠ 6 ∧ (h.flags ≠ 0 ∨ h.seq ≠ 0)) := by
                     intro hc
                     rcases hc with hc | hc <;> simp_all
                   unfold checkH
                   rw [if_neg hA, if_neg hB]
                   first
                     | (rw [if_pos (by omega)]; rfl)
                     | (rw [if_neg (by omega)]; rfl))
        · try simp only [Bool.and_eq_true, Bool.or_eq_true, Bool.or_eq_false_iff, Bool.and_eq_false_iff, Bool.not_eq_true', Bool.not_eq_false', decide_eq_true_eq, decide_eq_false_iff_not, Decidable.not_not] at h5
          refine region ?_
          refine cons (opv (Ev.fieldAddr (o := 34) (.t rfl) (by kernel_rfl)) ?_)
          refine cons (opv (Ev.load (xv := h.proto) ty5 (.t rfl) (ptsVar (by repeat first | exact mH | apply mT | apply mA) SHeader.l_proto)) ?_)
          refine cons (opv (Ev.neq_u8 (.t rfl) (.c (v := U8 6) rfl)) ?_)
          refine cons (opv (Ev.move (.t rfl)) ?_)
          refine cons (opg rfl rfl (Ev.fieldAddr (o := 40) (.t rfl) (by kernel_rfl)) ?_)
          refine cons (opg rfl rfl (Ev.load (xv := h.flags) ty5 (.g rfl id) (ptsVar (by repeat first | exact mH | apply mT | apply mA) SHeader.l_flags)) ?_)
          refine cons (opg rfl rfl (Ev.neq_u8 (.g rfl id) (.c (v := U8 0) rfl)) ?_)
          refine cons (opg rfl rfl (Ev.move (.g rfl id)) ?_)
          refine cons (opg rfl rfl (Ev.fieldAddr (o := 41) (.t rfl) (by kernel_rfl)) ?_)
          refine cons (opg rfl rfl (Ev.load (xv := h.seq) ty26 (.g rfl id) (ptsVar (by repeat first | exact mH | apply mT | apply mA) SHeader.l_seq)) ?_)
          refine cons (opg rfl rfl (Ev.neq_u32 (.g rfl id) (.c (v := U32 0) rfl)) ?_)
          refine cons (opg rfl rfl (Ev.pickO (.g rfl id) (.c (v := .bool true) rfl) (fun {_} h => by cases h; rfl) ⟨_, rfl⟩ (by intro h1 h; first | (rw [h] <;> rfl) | (rw [h1, h] <;> rfl) | (rw [h, h1] <;> rfl) | simp_all)) ?_)
          refine cons (opv (Ev.pickA (.t rfl) (fun {_} h => by cases h; rfl) ⟨_, rfl⟩ (by intro h1 h; first | (rw [h] <;> rfl) | (rw [h1, h] <;> rfl) | (rw [h, h1] <;> rfl) | simp_all) (.c (v := .bool false) rfl)) ?_)
          refine cons (opv (Ev.assign (.t rfl)) ?_)
          refine nil ?_
          refine pN ?_
          first | refine condD rfl (fun h6 => ?_) (fun h6 => ?_) | refine cond rfl (fun h6 => ?_) (fun h6 => ?_)
          · try simp only [Bool.and_eq_true, Bool.or_eq_true, Bool.or_eq_false_iff, Bool.and_eq_false_iff, Bool.not_eq_true', Bool.not_eq_false', decide_eq_true_eq, decide_eq_false_iff_not, Decidable.not_not] at h6
            refine seq ?_
            refine region ?_
            refine cons (opv (Ev.assign (.c (v := I 2) rfl)) ?_)
            refine nil ?_
            refine pN ?_
            refine ret ?_
            refine bR ?_
            refine pR ?_
            refine done rfl (.tmp rfl .nil) (retE ?_)
            unfold checkH
            first
              | (simp_all; done)
              | (have hA : ¬ (checkA h.src ≠ 0 ∨ checkA h.dst ≠ 0 ∨ h.src.v6 ≠ h.dst.v6 ∨ (bif h.src.v6 then 1048575 else 65535) < h.id) := by simp_all
                 rw [if_neg hA]
                 simp_all; done)
          · try simp only [Bool.and_eq_true, Bool.or_eq_true, Bool.or_eq_false_iff, Bool.and_eq_false_iff, Bool.not_eq_true', Bool.not_eq_false', decide_eq_true_eq, decide_eq_false_iff_not, Decidable.not_not] at h6
            refine seq ?_
            refine draw' (by kernel_rfl) ?_
            refine take 0 rfl (by kernel_rfl) (by kernel_rfl) (by kernel_rfl) (by repeat first | exact sR | exact sN | apply sC | apply sS | apply sA) (Ev.load (xv := h) ty29 (.t rfl) (ptsVar (by repeat first | exact mH | apply mT | apply mA) (Lens.id _))) ?_
            refine take 2 rfl (by kernel_rfl) (by kernel_rfl) (by kernel_rfl) (by repeat first | exact sR | exact sN | apply sC | apply sS | apply sA) (Ev.move (.t rfl)) ?_
            refine take 4 rfl (by kernel_rfl) (by kernel_rfl) (by kernel_rfl) (by repeat first | exact sR | exact sN | apply sC | apply sS | apply sA) (Ev.fieldAddr (o := 42) (.t rfl) (by kernel_rfl)) ?_
            refine take 5 rfl (by kernel_rfl) (by kernel_rfl) (by kernel_rfl) (by repeat first | exact sR | exact sN | apply sC | apply sS | apply sA) (Ev.load (xv := h.data) ty27 (.t rfl) (ptsVar (by repeat first | exact mH | apply mT | apply mA) SHeader.l_data)) ?_
            refine take 6 rfl (by kernel_rfl) (by kernel_rfl) (by kernel_rfl) (by repeat first | exact sR | exact sN | apply sC | apply sS | apply sA) (Ev.len Try.underlying27 (.t rfl) (fun w I => hd.keep0 I.keeps)) ?_
            refine all [1] (by kernel_rfl) (by decide) (.cons rfl ?_ .nil)
            refine (callv en40 (.cons (.t rfl) .nil) (fun w I => front_ok _ w) ?_)
            refine heldN_of (by repeat first | exact sR | exact sN | apply sC | apply sS | apply sA) ?_
            refine take 3 rfl (by kernel_rfl) (by kernel_rfl) (by kernel_rfl) (by repeat first | exact sR | exact sN | apply sC | apply sS | apply sA) (Ev.add_i (.t rfl) (.t rfl) (fun _ => by omega)) ?_
            refine take 7 rfl (by kernel_rfl) (by kernel_rfl) (by kernel_rfl) (by repeat first | exact sR | exact sN | apply sC | apply sS | apply sA) (Ev.add_i (.t rfl) (.t rfl) (fun _ => by omega)) ?_
            refine take 8 rfl (by kernel_rfl) (by kernel_rfl) (by kernel_rfl) (by repeat first | exact sR | exact sN | apply sC | apply sS | apply sA) (Ev.gtr_i (.t rfl) (.c (v := I 2048) rfl)) ?_
            refine take 9 rfl (by kernel_rfl) (by kernel_rfl) (by kernel_rfl) (by repeat first | exact sR | exact sN | apply sC | apply sS | apply sA) (Ev.assign (.t rfl)) ?_
            refine over (by kernel_rfl) ?_
            refine pN ?_
            first | refine condD rfl (fun h7 => ?_) (fun h7 => ?_) | refine cond rfl (fun h7 => ?_) (fun h7 => ?_)
            · try simp only [Bool.and_eq_true, Bool.or_eq_true, Bool.or_eq_false_iff, Bool.and_eq_false_iff, Bool.not_eq_true', Bool.not_eq_false', decide_eq_true_eq, decide_eq_false_iff_not, Decidable.not_not] at h7
              refine seq ?_
              refine region ?_
              refine cons (opv (Ev.assign (.c (v := I 4) rfl)) ?_)
              refine nil ?_
              refine pN ?_
              refine ret ?_
              refine bR ?_
              refine pR ?_
              refine done rfl (.tmp rfl .nil) (retE ?_)
              first
                | (exfalso; simp_all; done)
                | (have hA : ¬ (checkA h.src ≠ 0 ∨ checkA h.dst ≠ 0 ∨ h.src.v6 ≠ h.dst.v6 ∨ (bif h.src.v6 then 1048575 else 65535) < h.id) := by simp_all
                   have hB : ¬ (midN h.proto = 0 ∧ (h.srcPort ≠ 0 ∨ h.dstPort ≠ 0) ∨ h.proto ≠ 6 ∧ (h.flags ≠ 0 ∨ h.seq ≠ 0)) := by
                     intro hc
                     rcases hc with hc | hc <;> simp_all
                   unfold checkH
                   rw [if_neg hA, if_neg hB]
                   first
                     | (rw [if_pos (by omega)]; rfl)
                     | (rw [if_neg (by omega)]; rfl))
            · try simp only [Bool.and_eq_true, Bool.or_eq_true, Bool.or_eq_false_iff, Bool.and_eq_false_iff, Bool.not_eq_true', Bool.not_eq_false', decide_eq_true_eq, decide_eq_false_iff_not, Decidable.not_not] at h7
              refine skip ?_
              refine bN ?_
              refine pN ?_
              refine seq ?_
              refine region ?_
              refine cons (opv (Ev.assign (.c (v := I 0) rfl)) ?_)
              refine nil ?_
              refine pN ?_
              refine ret ?_
              refine done rfl (.tmp rfl .nil) (retE ?_)
              first
                | (exfalso; simp_all; done)
                | (have hA : ¬ (checkA h.src ≠ 0 ∨ checkA h.dst ≠ 0 ∨ h.src.v6 ≠ h.dst.v6 ∨ (bif h.src.v6 then 1048575 else 65535) < h.id) := by simp_all
                   have hB : ¬ (midN h.proto = 0 ∧ (h.srcPort ≠ 0 ∨ h.dstPort ≠ 0) ∨ h.proto ≠ 6 ∧ (h.flags ≠ 0 ∨ h.seq ≠ 0)) := by
                     intro hc
                     rcases hc with hc | hc <;> simp_all
                   unfold checkH
                   rw [if_neg hA, if_neg hB]
                   first
                     | (rw [if_pos (by omega)]; rfl)
                     | (rw [if_neg (by omega)]; rfl))
    · try simp only [Bool.and_eq_true, Bool.or_eq_true, Bool.or_eq_false_iff, Bool.and_eq_false_iff, Bool.not_eq_true', Bool.not_eq_false', decide_eq_true_eq, decide_eq_false_iff_not, Decidable.not_not] at h1
      refine seq ?_
      refine region ?_
      refine cons (opv (Ev.fieldAddr (o := 17) (.t rfl) (by kernel_rfl)) ?_)
      refine cons (opv (Ev.load (xv := h.dst) ty24 (.t rfl) (ptsVar (by repeat first | exact mH | apply mT | apply mA) SHeader.l_dst)) ?_)
      refine cons (callv en39 (.cons (.t rfl) .nil) (fun w I => checkA_ok _ w) ?_)
      refine cons (opv (Ev.neq_i (.t rfl) (.c (v := I 0) rfl)) ?_)
      refine cons (opv (Ev.assign (.t rfl)) ?_)
      refine nil ?_
      refine pN ?_
      first | refine condD rfl (fun h2 => ?_) (fun h2 => ?_) | refine cond rfl (fun h2 => ?_) (fun h2 => ?_)
      · try simp only [Bool.and_eq_true, Bool.or_eq_true, Bool.or_eq_false_iff, Bool.and_eq_false_iff, Bool.not_eq_true', Bool.not_eq_false', decide_eq_true_eq, decide_eq_false_iff_not, Decidable.not_not] at h2
        refine skip ?_
        refine pN ?_
        first | refine condD rfl (fun h4 => ?_) (fun h4 => ?_) | refine cond rfl (fun h4 => ?_) (fun h4 => ?_)
        · try simp only [Bool.and_eq_true, Bool.or_eq_true, Bool.or_eq_false_iff, Bool.and_eq_false_iff, Bool.not_eq_true', Bool.not_eq_false', decide_eq_true_eq, decide_eq_false_iff_not, Decidable.not_not] at h4
          refine seq ?_
          refine region ?_
          refine cons (opv (Ev.assign (.c (v := I 2) rfl)) ?_)
          refine nil ?_
          refine pN ?_
          refine ret ?_
          refine bR ?_
          refine pR ?_
          refine done rfl (.tmp rfl .nil) (retE ?_)
          unfold checkH
          first
            | (simp_all; done)
            | (have hA : ¬ (checkA h.src ≠ 0 ∨ checkA h.dst ≠ 0 ∨ h.src.v6 ≠ h.dst.v6 ∨ (bif h.src.v6 then 1048575 else 65535) < h.id) := by simp_all
               rw [if_neg hA]
               simp_all; done)
        · try simp only [Bool.and_eq_true, Bool.or_eq_true, Bool.or_eq_false_iff, Bool.and_eq_false_iff, Bool.not_eq_true', Bool.not_eq_false', decide_eq_true_eq, decide_eq_false_iff_not, Decidable.not_not] at h4
          refine seq ?_
          refine seq ?_
          refine region ?_
          refine cons (opv (Ev.move (.t rfl)) ?_)
          refine cons (opv (Ev.eql_i (.t rfl) (.c (v := I 0) rfl)) ?_)
          refine cons (opv (Ev.move (.t rfl)) ?_)
          refine cons (opg rfl rfl (Ev.fieldAddr (o := 35) (.t rfl) (by kernel_rfl)) ?_)
          refine cons (opg rfl rfl (Ev.load (xv := h.srcPort) ty25 (.g rfl id) (ptsVar (by repeat first | exact mH | apply mT | apply mA) SHeader.l_srcPort)) ?_)
          refine cons (opg rfl rfl (Ev.neq_u16 (.g rfl id) (.c (v := U16 0) rfl)) ?_)
          refine cons (opg rfl rfl (Ev.move (.g rfl id)) ?_)
          refine cons (opg rfl rfl (Ev.fieldAddr (o := 36) (.t rfl) (by kernel_rfl)) ?_)
          refine cons (opg rfl rfl (Ev.load (xv := h.dstPort) ty25 (.g rfl id) (ptsVar (by repeat first | exact mH | apply mT | apply mA) SHeader.l_dstPort)) ?_)
          refine cons (opg rfl rfl (Ev.neq_u16 (.g rfl id) (.c (v := U16 0) rfl)) ?_)
          refine cons (opg rfl rfl (Ev.pickO (.g rfl id) (.c (v := .bool true) rfl) (fun {_} h => by cases h; rfl) ⟨_, rfl⟩ (by intro h1 h; first | (rw [h] <;> rfl) | (rw [h1, h] <;> rfl) | (rw [h, h1] <;> rfl) | simp_all)) ?_)
          refine cons (opv (Ev.pickA (.t rfl) (fun {_} h => by cases h; rfl) ⟨_, rfl⟩ (by intro h1 h; first | (rw [h] <;> rfl) | (rw [h1, h] <;> rfl) | (rw [h, h1] <;> rfl) | simp_all) (.c (v := .bool false) rfl)) ?_)
          refine cons (opv (Ev.assign (.t rfl)) ?_)
          refine nil ?_
          refine pN ?_
          first | refine condD rfl (fun h5 => ?_) (fun h5 => ?_) | refine cond rfl (fun h5 => ?_) (fun h5 => ?_)
          · try simp only [Bool.and_eq_true, Bool.or_eq_true, Bool.or_eq_false_iff, Bool.and_eq_false_iff, Bool.not_eq_true', Bool.not_eq_false', decide_eq_true_eq, decide_eq_false_iff_not, Decidable.not_not] at h5
            refine skip ?_
            refine pN ?_
            first | refine condD rfl (fun h6 => ?_) (fun h6 => ?_) | refine cond rfl (fun h6 => ?_) (fun h6 => ?_)
            · try simp only [Bool.and_eq_true, Bool.or_eq_true, Bool.or_eq_false_iff, Bool.and_eq_false_iff, Bool.not_eq_true', Bool.not_eq_false', decide_eq_true_eq, decide_eq_false_iff_not, Decidable.not_not] at h6
              refine seq ?_
              refine region ?_
              refine cons (opv (Ev.assign (.c (v := I 2) rfl)) ?_)
              refine nil ?_
              refine pN ?_
              refine ret ?_
              refine bR ?_
              refine pR ?_
              refine done rfl (.tmp rfl .nil) (retE ?_)
              unfold checkH
              first
                | (simp_all; done)
                | (have hA : ¬ (checkA h.src ≠ 0 ∨ checkA h.dst ≠ 0 ∨ h.src.v6 ≠ h.dst.v6 ∨ (bif h.src.v6 then 1048575 else 65535) < h.id) := by simp_all
                   rw [if_neg hA]
                   simp_all; done)
            · try simp only [Bool.and_eq_true, Bool.or_eq_true, Bool.or_eq_false_iff, Bool.and_eq_false_iff, Bool.not_eq_true', Bool.not_eq_false', decide_eq_true_eq, decide_eq_false_iff_not, Decidable.not_not] at h6
              refine seq ?_
              refine draw' (by kernel_rfl) ?_
              refine take 0 rfl (by kernel_rfl) (by kernel_rfl) (by kernel_rfl) (by repeat first | exact sR | exact sN | apply sC | apply sS | apply sA) (Ev.load (xv := h) ty29 (.t rfl) (ptsVar (by repeat first | exact mH | apply mT | apply mA) (Lens.id _))) ?_
              refine take 2 rfl (by kernel_rfl) (by kernel_rfl) (by kernel_rfl) (by repeat first | exact sR | exact sN | apply sC | apply sS | apply sA) (Ev.move (.t rfl)) ?_
              refine take 4 rfl (by kernel_rfl) (by kernel_rfl) (by kernel_rfl) (by repeat first | exact sR | exact sN | apply sC | apply sS | apply sA) (Ev.fieldAddr (o := 42) (.t rfl) (by kernel_rfl)) ?_
              refine take 5 rfl (by kernel_rfl) (by kernel_rfl) (by kernel_rfl) (by repeat first | exact sR | exact sN | apply sC | apply sS | apply sA) (Ev.load (xv := h.data) ty27 (.t rfl) (ptsVar (by repeat first | exact mH | apply mT | apply mA) SHeader.l_data)) ?_
              refine take 6 rfl (by kernel_rfl) (by kernel_rfl) (by kernel_rfl) (by repeat first | exact sR | exact sN | apply sC | apply sS | apply sA) (Ev.len Try.underlying27 (.t rfl) (fun w I => hd.keep0 I.keeps)) ?_
              refine all [1] (by kernel_rfl) (by decide) (.cons rfl ?_ .nil)
              refine (callv en40 (.cons (.t rfl) .nil) (fun w I => front_ok _ w) ?_)
              refine heldN_of (by repeat first | exact sR | exact sN | apply sC | apply sS | apply sA) ?_
              refine take 3 rfl (by kernel_rfl) (by kernel_rfl) (by kernel_rfl) (by repeat first | exact sR | exact sN | apply sC | apply sS | apply sA) (Ev.add_i (.t rfl) (.t rfl) (fun _ => by omega)) ?_
              refine take 7 rfl (by kernel_rfl) (by kernel_rfl) (by kernel_rfl) (by repeat first | exact sR | exact sN | apply sC | apply sS | apply sA) (Ev.add_i (.t rfl) (.t rfl) (fun _ => by omega)) ?_
              refine take 8 rfl (by kernel_rfl) (by kernel_rfl) (by kernel_rfl) (by repeat first | exact sR | exact sN | apply sC | apply sS | apply sA) (Ev.gtr_i (.t rfl) (.c (v := I 2048) rfl)) ?_
              refine take 9 rfl (by kernel_rfl) (by kernel_rfl) (by kernel_rfl) (by repeat first | exact sR | exact sN | apply sC | apply sS | apply sA) (Ev.assign (.t rfl)) ?_
              refine over (by kernel_rfl) ?_
              refine pN ?_
              first | refine condD rfl (fun h7 => ?_) (fun h7 => ?_) | refine cond rfl (fun h7 => ?_) (fun h7 => ?_)
              · try simp only [Bool.and_eq_true, Bool.or_eq_true, Bool.or_eq_false_iff, Bool.and_eq_false_iff, Bool.not_eq_true', Bool.not_eq_false', decide_eq_true_eq, decide_eq_false_iff_not, Decidable.not_not] at h7
                refine seq ?_
                refine region ?_
                refine cons (opv (Ev.assign (.c (v := I 4) rfl)) ?_)
                refine nil ?_
                refine pN ?_
                refine ret ?_
                refine bR ?_
                refine pR ?_
                refine done rfl (.tmp rfl .nil) (retE ?_)
                first
                  | (exfalso; simp_all; done)
                  | (have hA : ¬ (checkA h.src ≠ 0 ∨ checkA h.dst ≠ 0 ∨ h.src.v6 ≠ h.dst.v6 ∨ (bif h.src.v6 then 1048575 else 65535) < h.id) := by simp_all
                     have hB : ¬ (midN h.proto = 0 ∧ (h.srcPort ≠ 0 ∨ h.dstPort ≠ 0) ∨ h.proto ≠ 6 ∧ (h.flags ≠ 0 ∨ h.seq ≠ 0)) := by
                       intro hc
                       rcases hc with hc | hc <;> simp_all
                     unfold checkH
                     rw [if_neg hA, if_neg hB]
                     first
                       | (rw [if_pos (by omega)]; rfl)
                       | (rw [if_neg (by omega)]; rfl))
              · try simp only [Bool.and_eq_true, Bool.or_eq_true, Bool.or_eq_false_iff, Bool.and_eq_false_iff, Bool.not_eq_true', Bool.not_eq_false', decide_eq_true_eq, decide_eq_false_iff_not, Decidable.not_not] at h7
                refine skip ?_
                refine bN ?_
                refine pN ?_
                refine seq ?_
                refine region ?_
                refine cons (opv (Ev.assign (.c (v := I 0) rfl)) ?_)
                refine nil ?_
                refine pN ?_
                refine ret ?_
                refine done rfl (.tmp rfl .nil) (retE ?_)
                first
                  | (exfalso; simp_all; done)
                  | (have hA : ¬ (checkA h.src ≠ 0 ∨ checkA h.dst ≠ 0 ∨ h.src.v6 ≠ h.dst.v6 ∨ (bif h.src.v6 then 1048575 else 65535) < h.id) := by simp_all
                     have hB : ¬ (midN h.proto = 0 ∧ (h.srcPort ≠ 0 ∨ h.dstPort ≠ 0) ∨ h.proto ≠ 6 ∧ (h.flags ≠ 0 ∨ h.seq ≠ 0)) := by
                       intro hc
                       rcases hc with hc | hc <;> simp_all
                     unfold checkH
                     rw [if_neg hA, if_neg hB]
                     first
                       | (rw [if_pos (by omega)]; rfl)
                       | (rw [if_neg (by omega)]; rfl))
          · try simp only [Bool.and_eq_true, Bool.or_eq_true, Bool.or_eq_false_iff, Bool.and_eq_false_iff, Bool.not_eq_true', Bool.not_eq_false', decide_eq_true_eq, decide_eq_false_iff_not, Decidable.not_not] at h5
            refine region ?_
            refine cons (opv (Ev.fieldAddr (o := 34) (.t rfl) (by kernel_rfl)) ?_)
            refine cons (opv (Ev.load (xv := h.proto) ty5 (.t rfl) (ptsVar (by repeat first | exact mH | apply mT | apply mA) SHeader.l_proto)) ?_)
            refine cons (opv (Ev.neq_u8 (.t rfl) (.c (v := U8 6) rfl)) ?_)
            refine cons (opv (Ev.move (.t rfl)) ?_)
            refine cons (opg rfl rfl (Ev.fieldAddr (o := 40) (.t rfl) (by kernel_rfl)) ?_)
            refine cons (opg rfl rfl (Ev.load (xv := h.flags) ty5 (.g rfl id) (ptsVar (by repeat first | exact mH | apply mT | apply mA) SHeader.l_flags)) ?_)
            refine cons (opg rfl rfl (Ev.neq_u8 (.g rfl id) (.c (v := U8 0) rfl)) ?_)
            refine cons (opg rfl rfl (Ev.move (.g rfl id)) ?_)
            refine cons (opg rfl rfl (Ev.fieldAddr (o := 41) (.t rfl) (by kernel_rfl)) ?_)
            refine cons (opg rfl rfl (Ev.load (xv := h.seq) ty26 (.g rfl id) (ptsVar (by repeat first | exact mH | apply mT | apply mA) SHeader.l_seq)) ?_)
            refine cons (opg rfl rfl (Ev.neq_u32 (.g rfl id) (.c (v := U32 0) rfl)) ?_)
            refine cons (opg rfl rfl (Ev.pickO (.g rfl id) (.c (v := .bool true) rfl) (fun {_} h => by cases h; rfl) ⟨_, rfl⟩ (by intro h1 h; first | (rw [h] <;> rfl) | (rw [h1, h] <;> rfl) | (rw [h, h1] <;> rfl) | simp_all)) ?_)
            refine cons (opv (Ev.pickA (.t rfl) (fun {_} h => by cases h; rfl) ⟨_, rfl⟩ (by intro h1 h; first | (rw [h] <;> rfl) | (rw [h1, h] <;> rfl) | (rw [h, h1] <;> rfl) | simp_all) (.c (v := .bool false) rfl)) ?_)
            refine cons (opv (Ev.assign (.t rfl)) ?_)
            refine nil ?_
            refine pN ?_
            first | refine condD rfl (fun h6 => ?_) (fun h6 => ?_) | refine cond rfl (fun h6 => ?_) (fun h6 => ?_)
            · try simp only [Bool.and_eq_true, Bool.or_eq_true, Bool.or_eq_false_iff, Bool.and_eq_false_iff, Bool.not_eq_true', Bool.not_eq_false', decide_eq_true_eq, decide_eq_false_iff_not, Decidable.not_not] at h6
              refine seq ?_
              refine region ?_
              refine cons (opv (Ev.assign (.c (v := I 2) rfl)) ?_)
              refine nil ?_
              refine pN ?_
              refine ret ?_
              refine bR ?_
              refine pR ?_
              refine done rfl (.tmp rfl .nil) (retE ?_)
              unfold checkH
              first
                | (simp_all; done)
                | (have hA : ¬ (checkA h.src ≠ 0 ∨ checkA h.dst ≠ 0 ∨ h.src.v6 ≠ h.dst.v6 ∨ (bif h.src.v6 then 1048575 else 65535) < h.id) := by simp_all
                   rw [if_neg hA]
                   simp_all; done)
            · try simp only [Bool.and_eq_true, Bool.or_eq_true, Bool.or_eq_false_iff, Bool.and_eq_false_iff, Bool.not_eq_true', Bool.not_eq_false', decide_eq_true_eq, decide_eq_false_iff_not, Decidable.not_not] at h6
              refine seq ?_
              refine draw' (by kernel_rfl) ?_
              refine take 0 rfl (by kernel_rfl) (by kernel_rfl) (by kernel_rfl) (by repeat first | exact sR | exact sN | apply sC | apply sS | apply sA) (Ev.load (xv := h) ty29 (.t rfl) (ptsVar (by repeat first | exact mH | apply mT | apply mA) (Lens.id _))) ?_
              refine take 2 rfl (by kernel_rfl) (by kernel_rfl) (by kernel_rfl) (by repeat first | exact sR | exact sN | apply sC | apply sS | apply sA) (Ev.move (.t rfl)) ?_
              refine take 4 rfl (by kernel_rfl) (by kernel_rfl) (by kernel_rfl) (by repeat first | exact sR | exact sN | apply sC | apply sS | apply sA) (Ev.fieldAddr (o := 42) (.t rfl) (by kernel_rfl)) ?_
              refine take 5 rfl (by kernel_rfl) (by kernel_rfl) (by kernel_rfl) (by repeat first | exact sR | exact sN | apply sC | apply sS | apply sA) (Ev.load (xv := h.data) ty27 (.t rfl) (ptsVar (by repeat first | exact mH | apply mT | apply mA) SHeader.l_data)) ?_
              refine take 6 rfl (by kernel_rfl) (by kernel_rfl) (by kernel_rfl) (by repeat first | exact sR | exact sN | apply sC | apply sS | apply sA) (Ev.len Try.underlying27 (.t rfl) (fun w I => hd.keep0 I.keeps)) ?_
              refine all [1] (by kernel_rfl) (by decide) (.cons rfl ?_ .nil)
              refine (callv en40 (.cons (.t rfl) .nil) (fun w I => front_ok _ w) ?_)
              refine heldN_of (by repeat first | exact sR | exact sN | apply sC | apply sS | apply sA) ?_
              refine take 3 rfl (by kernel_rfl) (by kernel_rfl) (by kernel_rfl) (by repeat first | exact sR | exact sN | apply sC | apply sS | apply sA) (Ev.add_i (.t rfl) (.t rfl) (fun _ => by omega)) ?_
              refine take 7 rfl (by kernel_rfl) (by kernel_rfl) (by kernel_rfl) (by repeat first | exact sR | exact sN | apply sC | apply sS | apply sA) (Ev.add_i (.t rfl) (.t rfl) (fun _ => by omega)) ?_
              refine take 8 rfl (by kernel_rfl) (by kernel_rfl) (by kernel_rfl) (by repeat first | exact sR | exact sN | apply sC | apply sS | apply sA) (Ev.gtr_i (.t rfl) (.c (v := I 2048) rfl)) ?_
              refine take 9 rfl (by kernel_rfl) (by kernel_rfl) (by kernel_rfl) (by repeat first | exact sR | exact sN | apply sC | apply sS | apply sA) (Ev.assign (.t rfl)) ?_
              refine over (by kernel_rfl) ?_
              refine pN ?_
              first | refine condD rfl (fun h7 => ?_) (fun h7 => ?_) | refine cond rfl (fun h7 => ?_) (fun h7 => ?_)
              · try simp only [Bool.and_eq_true, Bool.or_eq_true, Bool.or_eq_false_iff, Bool.and_eq_false_iff, Bool.not_eq_true', Bool.not_eq_false', decide_eq_true_eq, decide_eq_false_iff_not, Decidable.not_not] at h7
                refine seq ?_
                refine region ?_
                refine cons (opv (Ev.assign (.c (v := I 4) rfl)) ?_)
                refine nil ?_
                refine pN ?_
                refine ret ?_
                refine bR ?_
                refine pR ?_
                refine done rfl (.tmp rfl .nil) (retE ?_)
                first
                  | (exfalso; simp_all; done)
                  | (have hA : ¬ (checkA h.src ≠ 0 ∨ checkA h.dst ≠ 0 ∨ h.src.v6 ≠ h.dst.v6 ∨ (bif h.src.v6 then 1048575 else 65535) < h.id) := by simp_all
                     have hB : ¬ (midN h.proto = 0 ∧ (h.srcPort ≠ 0 ∨ h.dstPort ≠ 0) ∨ h.proto ≠ 6 ∧ (h.flags ≠ 0 ∨ h.seq ≠ 0)) := by
                       intro hc
                       rcases hc with hc | hc <;> simp_all
                     unfold checkH
                     rw [if_neg hA, if_neg hB]
                     first
                       | (rw [if_pos (by omega)]; rfl)
                       | (rw [if_neg (by omega)]; rfl))
              · try simp only [Bool.and_eq_true, Bool.or_eq_true, Bool.or_eq_false_iff, Bool.and_eq_false_iff, Bool.not_eq_true', Bool.not_eq_false', decide_eq_true_eq, decide_eq_false_iff_not, Decidable.not_not] at h7
                refine skip ?_
                refine bN ?_
                refine pN ?_
                refine seq ?_
                refine region ?_
                refine cons (opv (Ev.assign (.c (v := I 0) rfl)) ?_)
                refine nil ?_
                refine pN ?_
                refine ret ?_
                refine done rfl (.tmp rfl .nil) (retE ?_)
                first
                  | (exfalso; simp_all; done)
                  | (have hA : ¬ (checkA h.src ≠ 0 ∨ checkA h.dst ≠ 0 ∨ h.src.v6 ≠ h.dst.v6 ∨ (bif h.src.v6 then 1048575 else 65535) < h.id) := by simp_all
                     have hB : ¬ (midN h.proto = 0 ∧ (h.srcPort ≠ 0 ∨ h.dstPort ≠ 0) ∨ h.proto ≠ 6 ∧ (h.flags ≠ 0 ∨ h.seq ≠ 0)) := by
                       intro hc
                       rcases hc with hc | hc <;> simp_all
                     unfold checkH
                     rw [if_neg hA, if_neg hB]
                     first
                       | (rw [if_pos (by omega)]; rfl)
                       | (rw [if_neg (by omega)]; rfl))
      · try simp only [Bool.and_eq_true, Bool.or_eq_true, Bool.or_eq_false_iff, Bool.and_eq_false_iff, Bool.not_eq_true', Bool.not_eq_false', decide_eq_true_eq, decide_eq_false_iff_not, Decidable.not_not] at h2
        refine seq ?_
        refine region ?_
        refine cons (opv (Ev.fieldAddr (o := 0) (.t rfl) (by kernel_rfl)) ?_)
        refine cons (opv (Ev.fieldAddr (o := 0) (.t rfl) (by kernel_rfl)) ?_)
        refine cons (opv (Ev.load (xv := h.src.v6) ty4 (.t rfl) (ptsVar (by repeat first | exact mH | apply mT | apply mA) (Lens.comp SHeader.l_src SAddr.l_v6))) ?_)
        refine cons (opv (Ev.fieldAddr (o := 17) (.t rfl) (by kernel_rfl)) ?_)
        refine cons (opv (Ev.fieldAddr (o := 0) (.t rfl) (by kernel_rfl)) ?_)
        refine cons (opv (Ev.load (xv := h.dst.v6) ty4 (.t rfl) (ptsVar (by repeat first | exact mH | apply mT | apply mA) (Lens.comp SHeader.l_dst SAddr.l_v6))) ?_)
        refine cons (opv (Ev.neq_b Try.underlying4 (.t rfl) (.t rfl)) ?_)
        refine cons (opv (Ev.assign (.t rfl)) ?_)
        refine nil ?_
        refine pN ?_
        first | refine condD rfl (fun h3 => ?_) (fun h3 => ?_) | refine cond rfl (fun h3 => ?_) (fun h3 => ?_)
        · try simp only [Bool.and_eq_true, Bool.or_eq_true, Bool.or_eq_false_iff, Bool.and_eq_false_iff, Bool.not_eq_true', Bool.not_eq_false', decide_eq_true_eq, decide_eq_false_iff_not, Decidable.not_not] at h3
          refine skip ?_
          refine pN ?_
          first | refine condD rfl (fun h4 => ?_) (fun h4 => ?_) | refine cond rfl (fun h4 => ?_) (fun h4 => ?_)
          · try simp only [Bool.and_eq_true, Bool.or_eq_true, Bool.or_eq_false_iff, Bool.and_eq_false_iff, Bool.not_eq_true', Bool.not_eq_false', decide_eq_true_eq, decide_eq_false_iff_not, Decidable.not_not] at h4
            refine seq ?_
            refine region ?_
            refine cons (opv (Ev.assign (.c (v := I 2) rfl)) ?_)
            refine nil ?_
            refine pN ?_
            refine ret ?_
            refine bR ?_
            refine pR ?_
            refine done rfl (.tmp rfl .nil) (retE ?_)
            unfold checkH
            first
              | (simp_all; done)
              | (have hA : ¬ (checkA h.src ≠ 0 ∨ checkA h.dst ≠ 0 ∨ h.src.v6 ≠ h.dst.v6 ∨ (bif h.src.v6 then 1048575 else 65535) < h.id) := by simp_all
                 rw [if_neg hA]
                 simp_all; done)
          · try simp only [Bool.and_eq_true, Bool.or_eq_true, Bool.or_eq_false_iff, Bool.and_eq_false_iff, Bool.not_eq_true', Bool.not_eq_false', decide_eq_true_eq, decide_eq_false_iff_not, Decidable.not_not] at h4
            refine seq ?_
            refine seq ?_
            refine region ?_
            refine cons (opv (Ev.move (.t rfl)) ?_)
            refine cons (opv (Ev.eql_i (.t rfl) (.c (v := I 0) rfl)) ?_)
            refine cons (opv (Ev.move (.t rfl)) ?_)
            refine cons (opg rfl rfl (Ev.fieldAddr (o := 35) (.t rfl) (by kernel_rfl)) ?_)
            refine cons (opg rfl rfl (Ev.load (xv := h.srcPort) ty25 (.g rfl id) (ptsVar (by repeat first | exact mH | apply mT | apply mA) SHeader.l_srcPort)) ?_)
            refine cons (opg rfl rfl (Ev.neq_u16 (.g rfl id) (.c (v := U16 0) rfl)) ?_)
            refine cons (opg rfl rfl (Ev.move (.g rfl id)) ?_)
            refine cons (opg rfl rfl (Ev.fieldAddr (o := 36) (.t rfl) (by kernel_rfl)) ?_)
            refine cons (opg rfl rfl (Ev.load (xv := h.dstPort) ty25 (.g rfl id) (ptsVar (by repeat first | exact mH | apply mT | apply mA) SHeader.l_dstPort)) ?_)
            refine cons (opg rfl rfl (Ev.neq_u16 (.g rfl id) (.c (v := U16 0) rfl)) ?_)
            refine cons (opg rfl rfl (Ev.pickO (.g rfl id) (.c (v := .bool true) rfl) (fun {_} h => by cases h; rfl) ⟨_, rfl⟩ (by intro h1 h; first | (rw [h] <;> rfl) | (rw [h1, h] <;> rfl) | (rw [h, h1] <;> rfl) | simp_all)) ?_)
            refine cons (opv (Ev.pickA (.t rfl) (fun {_} h => by cases h; rfl) ⟨_, rfl⟩ (by intro h1 h; first | (rw [h] <;> rfl) | (rw [h1, h] <;> rfl) | (rw [h, h1] <;> rfl) | simp_all) (.c (v := .bool false) rfl)) ?_)
            refine cons (opv (Ev.assign (.t rfl)) ?_)
            refine nil ?_
            refine pN ?_
            first | refine condD rfl (fun h5 => ?_) (fun h5 => ?_) | refine cond rfl (fun h5 => ?_) (fun h5 => ?_)
            · try simp only [Bool.and_eq_true, Bool.or_eq_true, Bool.or_eq_false_iff, Bool.and_eq_false_iff, Bool.not_eq_true', Bool.not_eq_false', decide_eq_true_eq, decide_eq_false_iff_not, Decidable.not_not] at h5
              refine skip ?_
              refine pN ?_
              first | refine condD rfl (fun h6 => ?_) (fun h6 => ?_) | refine cond rfl (fun h6 => ?_) (fun h6 => ?_)
              · try simp only [Bool.and_eq_true, Bool.or_eq_true, Bool.or_eq_false_iff, Bool.and_eq_false_iff, Bool.not_eq_true', Bool.not_eq_false', decide_eq_true_eq, decide_eq_false_iff_not, Decidable.not_not] at h6
                refine seq ?_
                refine region ?_
                refine cons (opv (Ev.assign (.c (v := I 2) rfl)) ?_)
                refine nil ?_
                refine pN ?_
                refine ret ?_
                refine bR ?_
                refine pR ?_
                refine done rfl (.tmp rfl .nil) (retE ?_)
                unfold checkH
                first
                  | (simp_all; done)
                  | (have hA : ¬ (checkA h.src ≠ 0 ∨ checkA h.dst ≠ 0 ∨ h.src.v6 ≠ h.dst.v6 ∨ (bif h.src.v6 then 1048575 else 65535) < h.id) := by simp_all
                     rw [if_neg hA]
                     simp_all; done)
              · try simp only [Bool.and_eq_true, Bool.or_eq_true, Bool.or_eq_false_iff, Bool.and_eq_false_iff, Bool.not_eq_true', Bool.not_eq_false', decide_eq_true_eq, decide_eq_false_iff_not, Decidable.not_not] at h6
                refine seq ?_
                refine draw' (by kernel_rfl) ?_
                refine take 0 rfl (by kernel_rfl) (by kernel_rfl) (by kernel_rfl) (by repeat first | exact sR | exact sN | apply sC | apply sS | apply sA) (Ev.load (xv := h) ty29 (.t rfl) (ptsVar (by repeat first | exact mH | apply mT | apply mA) (Lens.id _))) ?_
                refine take 2 rfl (by kernel_rfl) (by kernel_rfl) (by kernel_rfl) (by repeat first | exact sR | exact sN | apply sC | apply sS | apply sA) (Ev.move (.t rfl)) ?_
                refine take 4 rfl (by kernel_rfl) (by kernel_rfl) (by kernel_rfl) (by repeat first | exact sR | exact sN | apply sC | apply sS | apply sA) (Ev.fieldAddr (o := 42) (.t rfl) (by kernel_rfl)) ?_
                refine take 5 rfl (by kernel_rfl) (by kernel_rfl) (by kernel_rfl) (by repeat first | exact sR | exact sN | apply sC | apply sS | apply sA) (Ev.load (xv := h.data) ty27 (.t rfl) (ptsVar (by repeat first | exact mH | apply mT | apply mA) SHeader.l_data)) ?_
                refine take 6 rfl (by kernel_rfl) (by kernel_rfl) (by kernel_rfl) (by repeat first | exact sR | exact sN | apply sC | apply sS | apply sA) (Ev.len Try.underlying27 (.t rfl) (fun w I => hd.keep0 I.keeps)) ?_
                refine all [1] (by kernel_rfl) (by decide) (.cons rfl ?_ .nil)
                refine (callv en40 (.cons (.t rfl) .nil) (fun w I => front_ok _ w) ?_)
                refine heldN_of (by repeat first | exact sR | exact sN | apply sC | apply sS | apply sA) ?_
                refine take 3 rfl (by kernel_rfl) (by kernel_rfl) (by kernel_rfl) (by repeat first | exact sR | exact sN | apply sC | apply sS | apply sA) (Ev.add_i (.t rfl) (.t rfl) (fun _ => by omega)) ?_
                refine take 7 rfl (by kernel_rfl) (by kernel_rfl) (by kernel_rfl) (by repeat first | exact sR | exact sN | apply sC | apply sS | apply sA) (Ev.add_i (.t rfl) (.t rfl) (fun _ => by omega)) ?_
                refine take 8 rfl (by kernel_rfl) (by kernel_rfl) (by kernel_rfl) (by repeat first | exact sR | exact sN | apply sC | apply sS | apply sA) (Ev.gtr_i (.t rfl) (.c (v := I 2048) rfl)) ?_
                refine take 9 rfl (by kernel_rfl) (by kernel_rfl) (by kernel_rfl) (by repeat first | exact sR | exact sN | apply sC | apply sS | apply sA) (Ev.assign (.t rfl)) ?_
                refine over (by kernel_rfl) ?_
                refine pN ?_
                first | refine condD rfl (fun h7 => ?_) (fun h7 => ?_) | refine cond rfl (fun h7 => ?_) (fun h7 => ?_)
                · try simp only [Bool.and_eq_true, Bool.or_eq_true, Bool.or_eq_false_iff, Bool.and_eq_false_iff, Bool.not_eq_true', Bool.not_eq_false', decide_eq_true_eq, decide_eq_false_iff_not, Decidable.not_not] at h7
                  refine seq ?_
                  refine region ?_
                  refine cons (opv (Ev.assign (.c (v := I 4) rfl)) ?_)
                  refine nil ?_
                  refine pN ?_
                  refine ret ?_
                  refine bR ?_
                  refine pR ?_
                  refine done rfl (.tmp rfl .nil) (retE ?_)
                  first
                    | (exfalso; simp_all; done)
                    | (have hA : ¬ (checkA h.src ≠ 0 ∨ checkA h.dst ≠ 0 ∨ h.src.v6 ≠ h.dst.v6 ∨ (bif h.src.v6 then 1048575 else 65535) < h.id) := by simp_all
                       have hB : ¬ (midN h.proto = 0 ∧ (h.srcPort ≠ 0 ∨ h.dstPort ≠ 0) ∨ h.proto ≠ 6 ∧ (h.flags ≠ 0 ∨ h.seq ≠ 0)) := by
                         intro hc
                         rcases hc with hc | hc <;> simp_all
                       unfold checkH
                       rw [if_neg hA, if_neg hB]
                       first
                         | (rw [if_pos (by omega)]; rfl)
                         | (rw [if_neg (by omega)]; rfl))
                · try simp only [Bool.and_eq_true, Bool.or_eq_true, Bool.or_eq_false_iff, Bool.and_eq_false_iff, Bool.not_eq_true', Bool.not_eq_false', decide_eq_true_eq, decide_eq_false_iff_not, Decidable.not_not] at h7
                  refine skip ?_
                  refine bN ?_
                  refine pN ?_
                  refine seq ?_
                  refine region ?_
                  refine cons (opv (Ev.assign (.c (v := I 0) rfl)) ?_)
                  refine nil ?_
                  refine pN ?_
                  refine ret ?_
                  refine done rfl (.tmp rfl .nil) (retE ?_)
                  first
                    | (exfalso; simp_all; done)
                    | (have hA : ¬ (checkA h.src ≠ 0 ∨ checkA h.dst ≠ 0 ∨ h.src.v6 ≠ h.dst.v6 ∨ (bif h.src.v6 then 1048575 else 65535) < h.id) := by simp_all
                       have hB : ¬ (midN h.proto = 0 ∧ (h.srcPort ≠ 0 ∨ h.dstPort ≠ 0) ∨ h.proto ≠ 6 ∧ (h.flags ≠ 0 ∨ h.seq ≠ 0)) := by
                         intro hc
                         rcases hc with hc | hc <;> simp_all
                       unfold checkH
                       rw [if_neg hA, if_neg hB]
                       first
                         | (rw [if_pos (by omega)]; rfl)
                         | (rw [if_neg (by omega)]; rfl))
            · try simp only [Bool.and_eq_true, Bool.or_eq_true, Bool.or_eq_false_iff, Bool.and_eq_false_iff, Bool.not_eq_true', Bool.not_eq_false', decide_eq_true_eq, decide_eq_false_iff_not, Decidable.not_not] at h5
              refine region ?_
              refine cons (opv (Ev.fieldAddr (o := 34) (.t rfl) (by kernel_rfl)) ?_)
              refine cons (opv (Ev.load (xv := h.proto) ty5 (.t rfl) (ptsVar (by repeat first | exact mH | apply mT | apply mA) SHeader.l_proto)) ?_)
              refine cons (opv (Ev.neq_u8 (.t rfl) (.c (v := U8 6) rfl)) ?_)
              refine cons (opv (Ev.move (.t rfl)) ?_)
              refine cons (opg rfl rfl (Ev.fieldAddr (o := 40) (.t rfl) (by kernel_rfl)) ?_)
              refine cons (opg rfl rfl (Ev.load (xv := h.flags) ty5 (.g rfl id) (ptsVar (by repeat first | exact mH | apply mT | apply mA) SHeader.l_flags)) ?_)
              refine cons (opg rfl rfl (Ev.neq_u8 (.g rfl id) (.c (v := U8 0) rfl)) ?_)
              refine cons (opg rfl rfl (Ev.move (.g rfl id)) ?_)
              refine cons (opg rfl rfl (Ev.fieldAddr (o := 41) (.t rfl) (by kernel_rfl)) ?_)
              refine cons (opg rfl rfl (Ev.load (xv := h.seq) ty26 (.g rfl id) (ptsVar (by repeat first | exact mH | apply mT | apply mA) SHeader.l_seq)) ?_)
              refine cons (opg rfl rfl (Ev.neq_u32 (.g rfl id) (.c (v := U32 0) rfl)) ?_)
              refine cons (opg rfl rfl (Ev.pickO (.g rfl id) (.c (v := .bool true) rfl) (fun {_} h => by cases h; rfl) ⟨_, rfl⟩ (by intro h1 h; first | (rw [h] <;> rfl) | (rw [h1, h] <;> rfl) | (rw [h, h1] <;> rfl) | simp_all)) ?_)
              refine cons (opv (Ev.pickA (.t rfl) (fun {_} h => by cases h; rfl) ⟨_, rfl⟩ (by intro h1 h; first | (rw [h] <;> rfl) | (rw [h1, h] <;> rfl) | (rw [h, h1] <;> rfl) | simp_all) (.c (v := .bool false) rfl)) ?_)
              refine cons (opv (Ev.assign (.t rfl)) ?_)
              refine nil ?_
              refine pN ?_
              first | refine condD rfl (fun h6 => ?_) (fun h6 => ?_) | refine cond rfl (fun h6 => ?_) (fun h6 => ?_)
              · try simp only [Bool.and_eq_true, Bool.or_eq_true, Bool.or_eq_false_iff, Bool.and_eq_false_iff, Bool.not_eq_true', Bool.not_eq_false', decide_eq_true_eq, decide_eq_false_iff_not, Decidable.not_not] at h6
                refine seq ?_
                refine region ?_
                refine cons (opv (Ev.assign (.c (v := I 2) rfl)) ?_)
                refine nil ?_
                refine pN ?_
                refine ret ?_
                refine bR ?_
                refine pR ?_
                refine done rfl (.tmp rfl .nil) (retE ?_)
                unfold checkH
                first
                  | (simp_all; done)
                  | (have hA : ¬ (checkA h.src ≠ 0 ∨ checkA h.dst ≠ 0 ∨ h.src.v6 ≠ h.dst.v6 ∨ (bif h.src.v6 then 1048575 else 65535) < h.id) := by simp_all
                     rw [if_neg hA]
                     simp_all; done)
              · try simp only [Bool.and_eq_true, Bool.or_eq_true, Bool.or_eq_false_iff, Bool.and_eq_false_iff, Bool.not_eq_true', Bool.not_eq_false', decide_eq_true_eq, decide_eq_false_iff_not, Decidable.not_not] at h6
                refine seq ?_
                refine draw' (by kernel_rfl) ?_
                refine take 0 rfl (by kernel_rfl) (by kernel_rfl) (by kernel_rfl) (by repeat first | exact sR | exact sN | apply sC | apply sS | apply sA) (Ev.load (xv := h) ty29 (.t rfl) (ptsVar (by repeat first | exact mH | apply mT | apply mA) (Lens.id _))) ?_
                refine take 2 rfl (by kernel_rfl) (by kernel_rfl) (by kernel_rfl) (by repeat first | exact sR | exact sN | apply sC | apply sS | apply sA) (Ev.move (.t rfl)) ?_
                refine take 4 rfl (by kernel_rfl) (by kernel_rfl) (by kernel_rfl) (by repeat first | exact sR | exact sN | apply sC | apply sS | apply sA) (Ev.fieldAddr (o := 42) (.t rfl) (by kernel_rfl)) ?_
                refine take 5 rfl (by kernel_rfl) (by kernel_rfl) (by kernel_rfl) (by repeat first | exact sR | exact sN | apply sC | apply sS | apply sA) (Ev.load (xv := h.data) ty27 (.t rfl) (ptsVar (by repeat first | exact mH | apply mT | apply mA) SHeader.l_data)) ?_
                refine take 6 rfl (by kernel_rfl) (by kernel_rfl) (by kernel_rfl) (by repeat first | exact sR | exact sN | apply sC | apply sS | apply sA) (Ev.len Try.underlying27 (.t rfl) (fun w I => hd.keep0 I.keeps)) ?_
                refine all [1] (by kernel_rfl) (by decide) (.cons rfl ?_ .nil)
                refine (callv en40 (.cons (.t rfl) .nil) (fun w I => front_ok _ w) ?_)
                refine heldN_of (by repeat first | exact sR | exact sN | apply sC | apply sS | apply sA) ?_
                refine take 3 rfl (by kernel_rfl) (by kernel_rfl) (by kernel_rfl) (by repeat first | exact sR | exact sN | apply sC | apply sS | apply sA) (Ev.add_i (.t rfl) (.t rfl) (fun _ => by omega)) ?_
                refine take 7 rfl (by kernel_rfl) (by kernel_rfl) (by kernel_rfl) (by repeat first | exact sR | exact sN | apply sC | apply sS | apply sA) (Ev.add_i (.t rfl) (.t rfl) (fun _ => by omega)) ?_
                refine take 8 rfl (by kernel_rfl) (by kernel_rfl) (by kernel_rfl) (by repeat first | exact sR | exact sN | apply sC | apply sS | apply sA) (Ev.gtr_i (.t rfl) (.c (v := I 2048) rfl)) ?_
                refine take 9 rfl (by kernel_rfl) (by kernel_rfl) (by kernel_rfl) (by repeat first | exact sR | exact sN | apply sC | apply sS | apply sA) (Ev.assign (.t rfl)) ?_
                refine over (by kernel_rfl) ?_
                refine pN ?_
                first | refine condD rfl (fun h7 => ?_) (fun h7 => ?_) | refine cond rfl (fun h7 => ?_) (fun h7 => ?_)
                · try simp only [Bool.and_eq_true, Bool.or_eq_true, Bool.or_eq_false_iff, Bool.and_eq_false_iff, Bool.not_eq_true', Bool.not_eq_false', decide_eq_true_eq, decide_eq_false_iff_not, Decidable.not_not] at h7
                  refine seq ?_
                  refine region ?_
                  refine cons (opv (Ev.assign (.c (v := I 4) rfl)) ?_)
                  refine nil ?_
                  refine pN ?_
                  refine ret ?_
                  refine bR ?_
                  refine pR ?_
                  refine done rfl (.tmp rfl .nil) (retE ?_)
                  first
                    | (exfalso; simp_all; done)
                    | (have hA : ¬ (checkA h.src ≠ 0 ∨ checkA h.dst ≠ 0 ∨ h.src.v6 ≠ h.dst.v6 ∨ (bif h.src.v6 then 1048575 else 65535) < h.id) := by simp_all
                       have hB : ¬ (midN h.proto = 0 ∧ (h.srcPort ≠ 0 ∨ h.dstPort ≠ 0) ∨ h.proto ≠ 6 ∧ (h.flags ≠ 0 ∨ h.seq ≠ 0)) := by
                         intro hc
                         rcases hc with hc | hc <;> simp_all
                       unfold checkH
                       rw [if_neg hA, if_neg hB]
                       first
                         | (rw [if_pos (by omega)]; rfl)
                         | (rw [if_neg (by omega)]; rfl))
                · try simp only [Bool.and_eq_true, Bool.or_eq_true, Bool.or_eq_false_iff, Bool.and_eq_false_iff, Bool.not_eq_true', Bool.not_eq_false', decide_eq_true_eq, decide_eq_false_iff_not, Decidable.not_not] at h7
                  refine skip ?_
                  refine bN ?_
                  refine pN ?_
                  refine seq ?_
                  refine region ?_
                  refine cons (opv (Ev.assign (.c (v := I 0) rfl)) ?_)
                  refine nil ?_
                  refine pN ?_
                  refine ret ?_
                  refine done rfl (.tmp rfl .nil) (retE ?_)
                  first
                    | (exfalso; simp_all; done)
                    | (have hA : ¬ (checkA h.src ≠ 0 ∨ checkA h.dst ≠ 0 ∨ h.src.v6 ≠ h.dst.v6 ∨ (bif h.src.v6 then 1048575 else 65535) < h.id) := by simp_all
                       have hB : ¬ (midN h.proto = 0 ∧ (h.srcPort ≠ 0 ∨ h.dstPort ≠ 0) ∨ h.proto ≠ 6 ∧ (h.flags ≠ 0 ∨ h.seq ≠ 0)) := by
                         intro hc
                         rcases hc with hc | hc <;> simp_all
                       unfold checkH
                       rw [if_neg hA, if_neg hB]
                       first
                         | (rw [if_pos (by omega)]; rfl)
                         | (rw [if_neg (by omega)]; rfl))
        · try simp only [Bool.and_eq_true, Bool.or_eq_true, Bool.or_eq_false_iff, Bool.and_eq_false_iff, Bool.not_eq_true', Bool.not_eq_false', decide_eq_true_eq, decide_eq_false_iff_not, Decidable.not_not] at h3
          refine region ?_
          refine cons (opv (Ev.fieldAddr (o := 39) (.t rfl) (by kernel_rfl)) ?_)
          refine cons (opv (Ev.load (xv := h.id) ty26 (.t rfl) (ptsVar (by repeat first | exact mH | apply mT | apply mA) SHeader.l_id)) ?_)
          refine cons (opv (Ev.move (.t rfl)) ?_)
          refine cons (opv (Ev.gtr_u32 (.t rfl) (.t rfl)) ?_)
          refine cons (opv (Ev.assign (.t rfl)) ?_)
          refine nil ?_
          refine pN ?_
          first | refine condD rfl (fun h4 => ?_) (fun h4 => ?_) | refine cond rfl (fun h4 => ?_) (fun h4 => ?_)
          · try simp only [Bool.and_eq_true, Bool.or_eq_true, Bool.or_eq_false_iff, Bool.and_eq_false_iff, Bool.not_eq_true', Bool.not_eq_false', decide_eq_true_eq, decide_eq_false_iff_not, Decidable.not_not] at h4
            refine seq ?_
            refine region ?_
            refine cons (opv (Ev.assign (.c (v := I 2) rfl)) ?_)
            refine nil ?_
            refine pN ?_
            refine ret ?_
            refine bR ?_
            refine pR ?_
            refine done rfl (.tmp rfl .nil) (retE ?_)
            unfold checkH
            first
              | (simp_all; done)
              | (have hA : ¬ (checkA h.src ≠ 0 ∨ checkA h.dst ≠ 0 ∨ h.src.v6 ≠ h.dst.v6 ∨ (bif h.src.v6 then 1048575 else 65535) < h.id) := by simp_all
                 rw [if_neg hA]
                 simp_all; done)
          · try simp only [Bool.and_eq_true, Bool.or_eq_true, Bool.or_eq_false_iff, Bool.and_eq_false_iff, Bool.not_eq_true', Bool.not_eq_false', decide_eq_true_eq, decide_eq_false_iff_not, Decidable.not_not] at h4
            refine seq ?_
            refine seq ?_
            refine region ?_
            refine cons (opv (Ev.move (.t rfl)) ?_)
            refine cons (opv (Ev.eql_i (.t rfl) (.c (v := I 0) rfl)) ?_)
            refine cons (opv (Ev.move (.t rfl)) ?_)
            refine cons (opg rfl rfl (Ev.fieldAddr (o := 35) (.t rfl) (by kernel_rfl)) ?_)
            refine cons (opg rfl rfl (Ev.load (xv := h.srcPort) ty25 (.g rfl id) (ptsVar (by repeat first | exact mH | apply mT | apply mA) SHeader.l_srcPort)) ?_)
            refine cons (opg rfl rfl (Ev.neq_u16 (.g rfl id) (.c (v := U16 0) rfl)) ?_)
            refine cons (opg rfl rfl (Ev.move (.g rfl id)) ?_)
            refine cons (opg rfl rfl (Ev.fieldAddr (o := 36) (.t rfl) (by kernel_rfl)) ?_)
            refine cons (opg rfl rfl (Ev.load (xv := h.dstPort) ty25 (.g rfl id) (ptsVar (by repeat first | exact mH | apply mT | apply mA) SHeader.l_dstPort)) ?_)
            refine cons (opg rfl rfl (Ev.neq_u16 (.g rfl id) (.c (v := U16 0) rfl)) ?_)
            refine cons (opg rfl rfl (Ev.pickO (.g rfl id) (.c (v := .bool true) rfl) (fun {_} h => by cases h; rfl) ⟨_, rfl⟩ (by intro h1 h; first | (rw [h] <;> rfl) | (rw [h1, h] <;> rfl) | (rw [h, h1] <;> rfl) | simp_all)) ?_)
            refine cons (opv (Ev.pickA (.t rfl) (fun {_} h => by cases h; rfl) ⟨_, rfl⟩ (by intro h1 h; first | (rw [h] <;> rfl) | (rw [h1, h] <;> rfl) | (rw [h, h1] <;> rfl) | simp_all) (.c (v := .bool false) rfl)) ?_)
            refine cons (opv (Ev.assign (.t rfl)) ?_)
            refine nil ?_
            refine pN ?_
            first | refine condD rfl (fun h5 => ?_) (fun h5 => ?_) | refine cond rfl (fun h5 => ?_) (fun h5 => ?_)
            · try simp only [Bool.and_eq_true, Bool.or_eq_true, Bool.or_eq_false_iff, Bool.and_eq_false_iff, Bool.not_eq_true', Bool.not_eq_false', decide_eq_true_eq, decide_eq_false_iff_not, Decidable.not_not] at h5
              refine skip ?_
              refine pN ?_
              first | refine condD rfl (fun h6 => ?_) (fun h6 => ?_) | refine cond rfl (fun h6 => ?_) (fun h6 => ?_)
              · try simp only [Bool.and_eq_true, Bool.or_eq_true, Bool.or_eq_false_iff, Bool.and_eq_false_iff, Bool.not_eq_true', Bool.not_eq_false', decide_eq_true_eq, decide_eq_false_iff_not, Decidable.not_not] at h6
                refine seq ?_
                refine region ?_
                refine cons (opv (Ev.assign (.c (v := I 2) rfl)) ?_)
                refine nil ?_
                refine pN ?_
                refine ret ?_
                refine bR ?_
                refine pR ?_
                refine done rfl (.tmp rfl .nil) (retE ?_)
                unfold checkH
                first
                  | (simp_all; done)
                  | (have hA : ¬ (checkA h.src ≠ 0 ∨ checkA h.dst ≠ 0 ∨ h.src.v6 ≠ h.dst.v6 ∨ (bif h.src.v6 then 1048575 else 65535) < h.id) := by simp_all
                     rw [if_neg hA]
                     simp_all; done)
              · try simp only [Bool.and_eq_true, Bool.or_eq_true, Bool.or_eq_false_iff, Bool.and_eq_false_iff, Bool.not_eq_true', Bool.not_eq_false', decide_eq_true_eq, decide_eq_false_iff_not, Decidable.not_not] at h6
                refine seq ?_
                refine draw' (by kernel_rfl) ?_
                refine take 0 rfl (by kernel_rfl) (by kernel_rfl) (by kernel_rfl) (by repeat first | exact sR | exact sN | apply sC | apply sS | apply sA) (Ev.load (xv := h) ty29 (.t rfl) (ptsVar (by repeat first | exact mH | apply mT | apply mA) (Lens.id _))) ?_
                refine take 2 rfl (by kernel_rfl) (by kernel_rfl) (by kernel_rfl) (by repeat first | exact sR | exact sN | apply sC | apply sS | apply sA) (Ev.move (.t rfl)) ?_
                refine take 4 rfl (by kernel_rfl) (by kernel_rfl) (by kernel_rfl) (by repeat first | exact sR | exact sN | apply sC | apply sS | apply sA) (Ev.fieldAddr (o := 42) (.t rfl) (by kernel_rfl)) ?_
                refine take 5 rfl (by kernel_rfl) (by kernel_rfl) (by kernel_rfl) (by repeat first | exact sR | exact sN | apply sC | apply sS | apply sA) (Ev.load (xv := h.data) ty27 (.t rfl) (ptsVar (by repeat first | exact mH | apply mT | apply mA) SHeader.l_data)) ?_
                refine take 6 rfl (by kernel_rfl) (by kernel_rfl) (by kernel_rfl) (by repeat first | exact sR | exact sN | apply sC | apply sS | apply sA) (Ev.len Try.underlying27 (.t rfl) (fun w I => hd.keep0 I.keeps)) ?_
                refine all [1] (by kernel_rfl) (by decide) (.cons rfl ?_ .nil)
                refine (callv en40 (.cons (.t rfl) .nil) (fun w I => front_ok _ w) ?_)
                refine heldN_of (by repeat first | exact sR | exact sN | apply sC | apply sS | apply sA) ?_
                refine take 3 rfl (by kernel_rfl) (by kernel_rfl) (by kernel_rfl) (by repeat first | exact sR | exact sN | apply sC | apply sS | apply sA) (Ev.add_i (.t rfl) (.t rfl) (fun _ => by omega)) ?_
                refine take 7 rfl (by kernel_rfl) (by kernel_rfl) (by kernel_rfl) (by repeat first | exact sR | exact sN | apply sC | apply sS | apply sA) (Ev.add_i (.t rfl) (.t rfl) (fun _ => by omega)) ?_
                refine take 8 rfl (by kernel_rfl) (by kernel_rfl) (by kernel_rfl) (by repeat first | exact sR | exact sN | apply sC | apply sS | apply sA) (Ev.gtr_i (.t rfl) (.c (v := I 2048) rfl)) ?_
                refine take 9 rfl (by kernel_rfl) (by kernel_rfl) (by kernel_rfl) (by repeat first | exact sR | exact sN | apply sC | apply sS | apply sA) (Ev.assign (.t rfl)) ?_
                refine over (by kernel_rfl) ?_
                refine pN ?_
                first | refine condD rfl (fun h7 => ?_) (fun h7 => ?_) | refine cond rfl (fun h7 => ?_) (fun h7 => ?_)
                · try simp only [Bool.and_eq_true, Bool.or_eq_true, Bool.or_eq_false_iff, Bool.and_eq_false_iff, Bool.not_eq_true', Bool.not_eq_false', decide_eq_true_eq, decide_eq_false_iff_not, Decidable.not_not] at h7
                  refine seq ?_
                  refine region ?_
                  refine cons (opv (Ev.assign (.c (v := I 4) rfl)) ?_)
                  refine nil ?_
                  refine pN ?_
                  refine ret ?_
                  refine bR ?_
                  refine pR ?_
                  refine done rfl (.tmp rfl .nil) (retE ?_)
                  first
                    | (exfalso; simp_all; done)
                    | (have hA : ¬ (checkA h.src ≠ 0 ∨ checkA h.dst ≠ 0 ∨ h.src.v6 ≠ h.dst.v6 ∨ (bif h.src.v6 then 1048575 else 65535) < h.id) := by simp_all
                       have hB : ¬ (midN h.proto = 0 ∧ (h.srcPort ≠ 0 ∨ h.dstPort ≠ 0) ∨ h.proto ≠ 6 ∧ (h.flags ≠ 0 ∨ h.seq ≠ 0)) := by
                         intro hc
                         rcases hc with hc | hc <;> simp_all
                       unfold checkH
                       rw [if_neg hA, if_neg hB]
                       first
                         | (rw [if_pos (by omega)]; rfl)
                         | (rw [if_neg (by omega)]; rfl))
                · try simp only [Bool.and_eq_true, Bool.or_eq_true, Bool.or_eq_false_iff, Bool.and_eq_false_iff, Bool.not_eq_true', Bool.not_eq_false', decide_eq_true_eq, decide_eq_false_iff_not, Decidable.not_not] at h7
                  refine skip ?_
                  refine bN ?_
                  refine pN ?_
                  refine seq ?_
                  refine region ?_
                  refine cons (opv (Ev.assign (.c (v := I 0) rfl)) ?_)
                  refine nil ?_
                  refine pN ?_
                  refine ret ?_
                  refine done rfl (.tmp rfl .nil) (retE ?_)
                  first
                    | (exfalso; simp_all; done)
                    | (have hA : ¬ (checkA h.src ≠ 0 ∨ checkA h.dst ≠ 0 ∨ h.src.v6 ≠ h.dst.v6 ∨ (bif h.src.v6 then 1048575 else 65535) < h.id) := by simp_all
                       have hB : ¬ (midN h.proto = 0 ∧ (h.srcPort ≠ 0 ∨ h.dstPort ≠ 0) ∨ h.proto ≠ 6 ∧ (h.flags ≠ 0 ∨ h.seq ≠ 0)) := by
                         intro hc
                         rcases hc with hc | hc <;> simp_all
                       unfold checkH
                       rw [if_neg hA, if_neg hB]
                       first
                         | (rw [if_pos (by omega)]; rfl)
                         | (rw [if_neg (by omega)]; rfl))
            · try simp only [Bool.and_eq_true, Bool.or_eq_true, Bool.or_eq_false_iff, Bool.and_eq_false_iff, Bool.not_eq_true', Bool.not_eq_false', decide_eq_true_eq, decide_eq_false_iff_not, Decidable.not_not] at h5
              refine region ?_
              refine cons (opv (Ev.fieldAddr (o := 34) (.t rfl) (by kernel_rfl)) ?_)
              refine cons (opv (Ev.load (xv := h.proto) ty5 (.t rfl) (ptsVar (by repeat first | exact mH | apply mT | apply mA) SHeader.l_proto)) ?_)
              refine cons (opv (Ev.neq_u8 (.t rfl) (.c (v := U8 6) rfl)) ?_)
              refine cons (opv (Ev.move (.t rfl)) ?_)
              refine cons (opg rfl rfl (Ev.fieldAddr (o := 40) (.t rfl) (by kernel_rfl)) ?_)
              refine cons (opg rfl rfl (Ev.load (xv := h.flags) ty5 (.g rfl id) (ptsVar (by repeat first | exact mH | apply mT | apply mA) SHeader.l_flags)) ?_)
              refine cons (opg rfl rfl (Ev.neq_u8 (.g rfl id) (.c (v := U8 0) rfl)) ?_)
              refine cons (opg rfl rfl (Ev.move (.g rfl id)) ?_)
              refine cons (opg rfl rfl (Ev.fieldAddr (o := 41) (.t rfl) (by kernel_rfl)) ?_)
              refine cons (opg rfl rfl (Ev.load (xv := h.seq) ty26 (.g rfl id) (ptsVar (by repeat first | exact mH | apply mT | apply mA) SHeader.l_seq)) ?_)
              refine cons (opg rfl rfl (Ev.neq_u32 (.g rfl id) (.c (v := U32 0) rfl)) ?_)
              refine cons (opg rfl rfl (Ev.pickO (.g rfl id) (.c (v := .bool true) rfl) (fun {_} h => by cases h; rfl) ⟨_, rfl⟩ (by intro h1 h; first | (rw [h] <;> rfl) | (rw [h1, h] <;> rfl) | (rw [h, h1] <;> rfl) | simp_all)) ?_)
              refine cons (opv (Ev.pickA (.t rfl) (fun {_} h => by cases h; rfl) ⟨_, rfl⟩ (by intro h1 h; first | (rw [h] <;> rfl) | (rw [h1, h] <;> rfl) | (rw [h, h1] <;> rfl) | simp_all) (.c (v := .bool false) rfl)) ?_)
              refine cons (opv (Ev.assign (.t rfl)) ?_)
              refine nil ?_
              refine pN ?_
              first | refine condD rfl (fun h6 => ?_) (fun h6 => ?_) | refine cond rfl (fun h6 => ?_) (fun h6 => ?_)
              · try simp only [Bool.and_eq_true, Bool.or_eq_true, Bool.or_eq_false_iff, Bool.and_eq_false_iff, Bool.not_eq_true', Bool.not_eq_false', decide_eq_true_eq, decide_eq_false_iff_not, Decidable.not_not] at h6
                refine seq ?_
                refine region ?_
                refine cons (opv (Ev.assign (.c (v := I 2) rfl)) ?_)
                refine nil ?_
                refine pN ?_
                refine ret ?_
                refine bR ?_
                refine pR ?_
                refine done rfl (.tmp rfl .nil) (retE ?_)
                unfold checkH
                first
                  | (simp_all; done)
                  | (have hA : ¬ (checkA h.src ≠ 0 ∨ checkA h.dst ≠ 0 ∨ h.src.v6 ≠ h.dst.v6 ∨ (bif h.src.v6 then 1048575 else 65535) < h.id) := by simp_all
                     rw [if_neg hA]
                     simp_all; done)
              · try simp only [Bool.and_eq_true, Bool.or_eq_true, Bool.or_eq_false_iff, Bool.and_eq_false_iff, Bool.not_eq_true', Bool.not_eq_false', decide_eq_true_eq, decide_eq_false_iff_not, Decidable.not_not] at h6
                refine seq ?_
                refine draw' (by kernel_rfl) ?_
                refine take 0 rfl (by kernel_rfl) (by kernel_rfl) (by kernel_rfl) (by repeat first | exact sR | exact sN | apply sC | apply sS | apply sA) (Ev.load (xv := h) ty29 (.t rfl) (ptsVar (by repeat first | exact mH | apply mT | apply mA) (Lens.id _))) ?_
                refine take 2 rfl (by kernel_rfl) (by kernel_rfl) (by kernel_rfl) (by repeat first | exact sR | exact sN | apply sC | apply sS | apply sA) (Ev.move (.t rfl)) ?_
                refine take 4 rfl (by kernel_rfl) (by kernel_rfl) (by kernel_rfl) (by repeat first | exact sR | exact sN | apply sC | apply sS | apply sA) (Ev.fieldAddr (o := 42) (.t rfl) (by kernel_rfl)) ?_
                refine take 5 rfl (by kernel_rfl) (by kernel_rfl) (by kernel_rfl) (by repeat first | exact sR | exact sN | apply sC | apply sS | apply sA) (Ev.load (xv := h.data) ty27 (.t rfl) (ptsVar (by repeat first | exact mH | apply mT | apply mA) SHeader.l_data)) ?_
                refine take 6 rfl (by kernel_rfl) (by kernel_rfl) (by kernel_rfl) (by repeat first | exact sR | exact sN | apply sC | apply sS | apply sA) (Ev.len Try.underlying27 (.t rfl) (fun w I => hd.keep0 I.keeps)) ?_
                refine all [1] (by kernel_rfl) (by decide) (.cons rfl ?_ .nil)
                refine (callv en40 (.cons (.t rfl) .nil) (fun w I => front_ok _ w) ?_)
                refine heldN_of (by repeat first | exact sR | exact sN | apply sC | apply sS | apply sA) ?_
                refine take 3 rfl (by kernel_rfl) (by kernel_rfl) (by kernel_rfl) (by repeat first | exact sR | exact sN | apply sC | apply sS | apply sA) (Ev.add_i (.t rfl) (.t rfl) (fun _ => by omega)) ?_
                refine take 7 rfl (by kernel_rfl) (by kernel_rfl) (by kernel_rfl) (by repeat first | exact sR | exact sN | apply sC | apply sS | apply sA) (Ev.add_i (.t rfl) (.t rfl) (fun _ => by omega)) ?_
                refine take 8 rfl (by kernel_rfl) (by kernel_rfl) (by kernel_rfl) (by repeat first | exact sR | exact sN | apply sC | apply sS | apply sA) (Ev.gtr_i (.t rfl) (.c (v := I 2048) rfl)) ?_
                refine take 9 rfl (by kernel_rfl) (by kernel_rfl) (by kernel_rfl) (by repeat first | exact sR | exact sN | apply sC | apply sS | apply sA) (Ev.assign (.t rfl)) ?_
                refine over (by kernel_rfl) ?_
                refine pN ?_
                first | refine condD rfl (fun h7 => ?_) (fun h7 => ?_) | refine cond rfl (fun h7 => ?_) (fun h7 => ?_)
                · try simp only [Bool.and_eq_true, Bool.or_eq_true, Bool.or_eq_false_iff, Bool.and_eq_false_iff, Bool.not_eq_true', Bool.not_eq_false', decide_eq_true_eq, decide_eq_false_iff_not, Decidable.not_not] at h7
                  refine seq ?_
                  refine region ?_
                  refine cons (opv (Ev.assign (.c (v := I 4) rfl)) ?_)
                  refine nil ?_
                  refine pN ?_
                  refine ret ?_
                  refine bR ?_
                  refine pR ?_
                  refine done rfl (.tmp rfl .nil) (retE ?_)
                  first
                    | (exfalso; simp_all; done)
                    | (have hA : ¬ (checkA h.src ≠ 0 ∨ checkA h.dst ≠ 0 ∨ h.src.v6 ≠ h.dst.v6 ∨ (bif h.src.v6 then 1048575 else 65535) < h.id) := by simp_all
                       have hB : ¬ (midN h.proto = 0 ∧ (h.srcPort ≠ 0 ∨ h.dstPort ≠ 0) ∨ h.proto ≠ 6 ∧ (h.flags ≠ 0 ∨ h.seq ≠ 0)) := by
                         intro hc
                         rcases hc with hc | hc <;> simp_all
                       unfold checkH
                       rw [if_neg hA, if_neg hB]
                       first
                         | (rw [if_pos (by omega)]; rfl)
                         | (rw [if_neg (by omega)]; rfl))
                · try simp only [Bool.and_eq_true, Bool.or_eq_true, Bool.or_eq_false_iff, Bool.and_eq_false_iff, Bool.not_eq_true', Bool.not_eq_false', decide_eq_true_eq, decide_eq_false_iff_not, Decidable.not_not] at h7
                  refine skip ?_
                  refine bN ?_
                  refine pN ?_
                  refine seq ?_
                  refine region ?_
                  refine cons (opv (Ev.assign (.c (v := I 0) rfl)) ?_)
                  refine nil ?_
                  refine pN ?_
                  refine ret ?_
                  refine done rfl (.tmp rfl .nil) (retE ?_)
                  first
                    | (exfalso; simp_all; done)
                    | (have hA : ¬ (checkA h.src ≠ 0 ∨ checkA h.dst ≠ 0 ∨ h.src.v6 ≠ h.dst.v6 ∨ (bif h.src.v6 then 1048575 else 65535) < h.id) := by simp_all
                       have hB : ¬ (midN h.proto = 0 ∧ (h.srcPort ≠ 0 ∨ h.dstPort ≠ 0) ∨ h.proto ≠ 6 ∧ (h.flags ≠ 0 ∨ h.seq ≠ 0)) := by
                         intro hc
                         rcases hc with hc | hc <;> simp_all
                       unfold checkH
                       rw [if_neg hA, if_neg hB]
                       first
                         | (rw [if_pos (by omega)]; rfl)
                         | (rw [if_neg (by omega)]; rfl))
  · try simp only [Bool.and_eq_true, Bool.or_eq_true, Bool.or_eq_false_iff, Bool.and_eq_false_iff, Bool.not_eq_true', Bool.not_eq_false', decide_eq_true_eq, decide_eq_false_iff_not, Decidable.not_not] at h0
    refine skip ?_
    refine pN ?_
    refine seq ?_
    refine region ?_
    refine cons (opv (Ev.fieldAddr (o := 34) (.t rfl) (by kernel_rfl)) ?_)
    refine cons (opv (Ev.load (xv := h.proto) ty5 (.t rfl) (ptsVar (by repeat first | exact mH | apply mT | apply mA) SHeader.l_proto)) ?_)
    refine cons (callv en34 (.cons (.t rfl) .nil) (fun w I => middle_ok _ w) ?_)
    refine cons (opv (Ev.assign (.t rfl)) ?_)
    refine nil ?_
    refine pN ?_
    refine seq ?_
    refine block ?_
    refine seq ?_
    refine seq ?_
    refine region ?_
    refine cons (opv (Ev.fieldAddr (o := 0) (.t rfl) (by kernel_rfl)) ?_)
    refine cons (opv (Ev.load (xv := h.src) ty24 (.t rfl) (ptsVar (by repeat first | exact mH | apply mT | apply mA) SHeader.l_src)) ?_)
    refine cons (callv en39 (.cons (.t rfl) .nil) (fun w I => checkA_ok _ w) ?_)
    refine cons (opv (Ev.neq_i (.t rfl) (.c (v := I 0) rfl)) ?_)
    refine cons (opv (Ev.assign (.t rfl)) ?_)
    refine nil ?_
    refine pN ?_
    first | refine condD rfl (fun h1 => ?_) (fun h1 => ?_) | refine cond rfl (fun h1 => ?_) (fun h1 => ?_)
    · try simp only [Bool.and_eq_true, Bool.or_eq_true, Bool.or_eq_false_iff, Bool.and_eq_false_iff, Bool.not_eq_true', Bool.not_eq_false', decide_eq_true_eq, decide_eq_false_iff_not, Decidable.not_not] at h1
      refine skip ?_
      refine pN ?_
      first | refine condD rfl (fun h4 => ?_) (fun h4 => ?_) | refine cond rfl (fun h4 => ?_) (fun h4 => ?_)
      · try simp only [Bool.and_eq_true, Bool.or_eq_true, Bool.or_eq_false_iff, Bool.and_eq_false_iff, Bool.not_eq_true', Bool.not_eq_false', decide_eq_true_eq, decide_eq_false_iff_not, Decidable.not_not] at h4
        refine seq ?_
        refine region ?_
        refine cons (opv (Ev.assign (.c (v := I 2) rfl)) ?_)
        refine nil ?_
        refine pN ?_
        refine ret ?_
        refine bR ?_
        refine pR ?_
        refine done rfl (.tmp rfl .nil) (retE ?_)
        unfold checkH
        first
          | (simp_all; done)
          | (have hA : ¬ (checkA h.src ≠ 0 ∨ checkA h.dst ≠ 0 ∨ h.src.v6 ≠ h.dst.v6 ∨ (bif h.src.v6 then 1048575 else 65535) < h.id) := by simp_all
             rw [if_neg hA]
             simp_all; done)
      · try simp only [Bool.and_eq_true, Bool.or_eq_true, Bool.or_eq_false_iff, Bool.and_eq_false_iff, Bool.not_eq_true', Bool.not_eq_false', decide_eq_true_eq, decide_eq_false_iff_not, Decidable.not_not] at h4
        refine seq ?_
        refine seq ?_
        refine region ?_
        refine cons (opv (Ev.move (.t rfl)) ?_)
        refine cons (opv (Ev.eql_i (.t rfl) (.c (v := I 0) rfl)) ?_)
        refine cons (opv (Ev.move (.t rfl)) ?_)
        refine cons (opg rfl rfl (Ev.fieldAddr (o := 35) (.t rfl) (by kernel_rfl)) ?_)
        refine cons (opg rfl rfl (Ev.load (xv := h.srcPort) ty25 (.g rfl id) (ptsVar (by repeat first | exact mH | apply mT | apply mA) SHeader.l_srcPort)) ?_)
        refine cons (opg rfl rfl (Ev.neq_u16 (.g rfl id) (.c (v := U16 0) rfl)) ?_)
        refine cons (opg rfl rfl (Ev.move (.g rfl id)) ?_)
        refine cons (opg rfl rfl (Ev.fieldAddr (o := 36) (.t rfl) (by kernel_rfl)) ?_)
        refine cons (opg rfl rfl (Ev.load (xv := h.dstPort) ty25 (.g rfl id) (ptsVar (by repeat first | exact mH | apply mT | apply mA) SHeader.l_dstPort)) ?_)
        refine cons (opg rfl rfl (Ev.neq_u16 (.g rfl id) (.c (v := U16 0) rfl)) ?_)
        refine cons (opg rfl rfl (Ev.pickO (.g rfl id) (.c (v := .bool true) rfl) (fun {_} h => by cases h; rfl) ⟨_, rfl⟩ (by intro h1 h; first | (rw [h] <;> rfl) | (rw [h1, h] <;> rfl) | (rw [h, h1] <;> rfl) | simp_all)) ?_)
        refine cons (opv (Ev.pickA (.t rfl) (fun {_} h => by cases h; rfl) ⟨_, rfl⟩ (by intro h1 h; first | (rw [h] <;> rfl) | (rw [h1, h] <;> rfl) | (rw [h, h1] <;> rfl) | simp_all) (.c (v := .bool false) rfl)) ?_)
        refine cons (opv (Ev.assign (.t rfl)) ?_)
        refine nil ?_
        refine pN ?_
        first | refine condD rfl (fun h5 => ?_) (fun h5 => ?_) | refine cond rfl (fun h5 => ?_) (fun h5 => ?_)
        · try simp only [Bool.and_eq_true, Bool.or_eq_true, Bool.or_eq_false_iff, Bool.and_eq_false_iff, Bool.not_eq_true', Bool.not_eq_false', decide_eq_true_eq, decide_eq_false_iff_not, Decidable.not_not] at h5
          refine skip ?_
          refine pN ?_
          first | refine condD rfl (fun h6 => ?_) (fun h6 => ?_) | refine cond rfl (fun h6 => ?_) (fun h6 => ?_)
          · try simp only [Bool.and_eq_true, Bool.or_eq_true, Bool.or_eq_false_iff, Bool.and_eq_false_iff, Bool.not_eq_true', Bool.not_eq_false', decide_eq_true_eq, decide_eq_false_iff_not, Decidable.not_not] at h6
            refine seq ?_
            refine region ?_
            refine cons (opv (Ev.assign (.c (v := I 2) rfl)) ?_)
            refine nil ?_
            refine pN ?_
            refine ret ?_
            refine bR ?_
            refine pR ?_
            refine done rfl (.tmp rfl .nil) (retE ?_)
            unfold checkH
            first
              | (simp_all; done)
              | (have hA : ¬ (checkA h.src ≠ 0 ∨ checkA h.dst ≠ 0 ∨ h.src.v6 ≠ h.dst.v6 ∨ (bif h.src.v6 then 1048575 else 65535) < h.id) := by simp_all
                 rw [if_neg hA]
                 simp_all; done)
          · try simp only [Bool.and_eq_true, Bool.or_eq_true, Bool.or_eq_false_iff, Bool.and_eq_false_iff, Bool.not_eq_true', Bool.not_eq_false', decide_eq_true_eq, decide_eq_false_iff_not, Decidable.not_not] at h6
            refine seq ?_
            refine draw' (by kernel_rfl) ?_
            refine take 0 rfl (by kernel_rfl) (by kernel_rfl) (by kernel_rfl) (by repeat first | exact sR | exact sN | apply sC | apply sS | apply sA) (Ev.load (xv := h) ty29 (.t rfl) (ptsVar (by repeat first | exact mH | apply mT | apply mA) (Lens.id _))) ?_
            refine take 2 rfl (by kernel_rfl) (by kernel_rfl) (by kernel_rfl) (by repeat first | exact sR | exact sN | apply sC | apply sS | apply sA) (Ev.move (.t rfl)) ?_
            refine take 4 rfl (by kernel_rfl) (by kernel_rfl) (by kernel_rfl) (by repeat first | exact sR | exact sN | apply sC | apply sS | apply sA) (Ev.fieldAddr (o := 42) (.t rfl) (by kernel_rfl)) ?_
            refine take 5 rfl (by kernel_rfl) (by kernel_rfl) (by kernel_rfl) (by repeat first | exact sR | exact sN | apply sC | apply sS | apply sA) (Ev.load (xv := h.data) ty27 (.t rfl) (ptsVar (by repeat first | exact mH | apply mT | apply mA) SHeader.l_data)) ?_
            refine take 6 rfl (by kernel_rfl) (by kernel_rfl) (by kernel_rfl) (by repeat first | exact sR | exact sN | apply sC | apply sS | apply sA) (Ev.len Try.underlying27 (.t rfl) (fun w I => hd.keep0 I.keeps)) ?_
            refine all [1] (by kernel_rfl) (by decide) (.cons rfl ?_ .nil)
            refine (callv en40 (.cons (.t rfl) .nil) (fun w I => front_ok _ w) ?_)
            refine heldN_of (by repeat first | exact sR | exact sN | apply sC | apply sS | apply sA) ?_
            refine take 3 rfl (by kernel_rfl) (by kernel_rfl) (by kernel_rfl) (by repeat first | exact sR | exact sN | apply sC | apply sS | apply sA) (Ev.add_i (.t rfl) (.t rfl) (fun _ => by omega)) ?_
            refine take 7 rfl (by kernel_rfl) (by kernel_rfl) (by kernel_rfl) (by repeat first | exact sR | exact sN | apply sC | apply sS | apply sA) (Ev.add_i (.t rfl) (.t rfl) (fun _ => by omega)) ?_
            refine take 8 rfl (by kernel_rfl) (by kernel_rfl) (by kernel_rfl) (by repeat first | exact sR | exact sN | apply sC | apply sS | apply sA) (Ev.gtr_i (.t rfl) (.c (v := I 2048) rfl)) ?_
            refine take 9 rfl (by kernel_rfl) (by kernel_rfl) (by kernel_rfl) (by repeat first | exact sR | exact sN | apply sC | apply sS | apply sA) (Ev.assign (.t rfl)) ?_
            refine over (by kernel_rfl) ?_
            refine pN ?_
            first | refine condD rfl (fun h7 => ?_) (fun h7 => ?_) | refine cond rfl (fun h7 => ?_) (fun h7 => ?_)
            · try simp only [Bool.and_eq_true, Bool.or_eq_true, Bool.or_eq_false_iff, Bool.and_eq_false_iff, Bool.not_eq_true', Bool.not_eq_false', decide_eq_true_eq, decide_eq_false_iff_not, Decidable.not_not] at h7
              refine seq ?_
              refine region ?_
              refine cons (opv (Ev.assign (.c (v := I 4) rfl)) ?_)
              refine nil ?_
              refine pN ?_
              refine ret ?_
              refine bR ?_
              refine pR ?_
              refine done rfl (.tmp rfl .nil) (retE ?_)
              first
                | (exfalso; simp_all; done)
                | (have hA : ¬ (checkA h.src ≠ 0 ∨ checkA h.dst ≠ 0 ∨ h.src.v6 ≠ h.dst.v6 ∨ (bif h.src.v6 then 1048575 else 65535) < h.id) := by simp_all
                   have hB : ¬ (midN h.proto = 0 ∧ (h.srcPort ≠ 0 ∨ h.dstPort ≠ 0) ∨ h.proto ≠ 6 ∧ (h.flags ≠ 0 ∨ h.seq ≠ 0)) := by
                     intro hc
                     rcases hc with hc | hc <;> simp_all
                   unfold checkH
                   rw [if_neg hA, if_neg hB]
                   first
                     | (rw [if_pos (by omega)]; rfl)
                     | (rw [if_neg (by omega)]; rfl))
            · try simp only [Bool.and_eq_true, Bool.or_eq_true, Bool.or_eq_false_iff, Bool.and_eq_false_iff, Bool.not_eq_true', Bool.not_eq_false', decide_eq_true_eq, decide_eq_false_iff_not, Decidable.not_not] at h7
              refine skip ?_
              refine bN ?_
              refine pN ?_
              refine seq ?_
              refine region ?_
              refine cons (opv (Ev.assign (.c (v := I 0) rfl)) ?_)
              refine nil ?_
              refine pN ?_
              refine ret ?_
              refine done rfl (.tmp rfl .nil) (retE ?_)
              first
                | (exfalso; simp_all; done)
                | (have hA : ¬ (checkA h.src ≠ 0 ∨ checkA h.dst ≠ 0 ∨ h.src.v6 ≠ h.dst.v6 ∨ (bif h.src.v6 then 1048575 else 65535) < h.id) := by simp_all
                   have hB : ¬ (midN h.proto = 0 ∧ (h.srcPort ≠ 0 ∨ h.dstPort ≠ 0) ∨ h.proto ≠ 6 ∧ (h.flags ≠ 0 ∨ h.seq ≠ 0)) := by
                     intro hc
                     rcases hc with hc | hc <;> simp_all
                   unfold checkH
                   rw [if_neg hA, if_neg hB]
                   first
                     | (rw [if_pos (by omega)]; rfl)
                     | (rw [if_neg (by omega)]; rfl))
        · try simp only [Bool.and_eq_true, Bool.or_eq_true, Bool.or_eq_false_iff, Bool.and_eq_false_iff, Bool.not_eq_true', Bool.not_eq_false', decide_eq_true_eq, decide_eq_false_iff_not, Decidable.not_not] at h5
          refine region ?_
          refine cons (opv (Ev.fieldAddr (o := 34) (.t rfl) (by kernel_rfl)) ?_)
          refine cons (opv (Ev.load (xv := h.proto) ty5 (.t rfl) (ptsVar (by repeat first | exact mH | apply mT | apply mA) SHeader.l_proto)) ?_)
          refine cons (opv (Ev.neq_u8 (.t rfl) (.c (v := U8 6) rfl)) ?_)
          refine cons (opv (Ev.move (.t rfl)) ?_)
          refine cons (opg rfl rfl (Ev.fieldAddr (o := 40) (.t rfl) (by kernel_rfl)) ?_)
          refine cons (opg rfl rfl (Ev.load (xv := h.flags) ty5 (.g rfl id) (ptsVar (by repeat first | exact mH | apply mT | apply mA) SHeader.l_flags)) ?_)
          refine cons (opg rfl rfl (Ev.neq_u8 (.g rfl id) (.c (v := U8 0) rfl)) ?_)
          refine cons (opg rfl rfl (Ev.move (.g rfl id)) ?_)
          refine cons (opg rfl rfl (Ev.fieldAddr (o := 41) (.t rfl) (by kernel_rfl)) ?_)
          refine cons (opg rfl rfl (Ev.load (xv := h.seq) ty26 (.g rfl id) (ptsVar (by repeat first | exact mH | apply mT | apply mA) SHeader.l_seq)) ?_)
          refine cons (opg rfl rfl (Ev.neq_u32 (.g rfl id) (.c (v := U32 0) rfl)) ?_)
          refine cons (opg rfl rfl (Ev.pickO (.g rfl id) (.c (v := .bool true) rfl) (fun {_} h => by cases h; rfl) ⟨_, rfl⟩ (by intro h1 h; first | (rw [h] <;> rfl) | (rw [h1, h] <;> rfl) | (rw [h, h1] <;> rfl) | simp_all)) ?_)
          refine cons (opv (Ev.pickA (.t rfl) (fun {_} h => by cases h; rfl) ⟨_, rfl⟩ (by intro h1 h; first | (rw [h] <;> rfl) | (rw [h1, h] <;> rfl) | (rw [h, h1] <;> rfl) | simp_all) (.c (v := .bool false) rfl)) ?_)
          refine cons (opv (Ev.assign (.t rfl)) ?_)
          refine nil ?_
          refine pN ?_
          first | refine condD rfl (fun h6 => ?_) (fun h6 => ?_) | refine cond rfl (fun h6 => ?_) (fun h6 => ?_)
          · try simp only [Bool.and_eq_true, Bool.or_eq_true, Bool.or_eq_false_iff, Bool.and_eq_false_iff, Bool.not_eq_true', Bool.not_eq_false', decide_eq_true_eq, decide_eq_false_iff_not, Decidable.not_not] at h6
            refine seq ?_
            refine region ?_
            refine cons (opv (Ev.assign (.c (v := I 2) rfl)) ?_)
            refine nil ?_
            refine pN ?_
            refine ret ?_
            refine bR ?_
            refine pR ?_
            refine done rfl (.tmp rfl .nil) (retE ?_)
            unfold checkH
            first
              | (simp_all; done)
              | (have hA : ¬ (checkA h.src ≠ 0 ∨ checkA h.dst ≠ 0 ∨ h.src.v6 ≠ h.dst.v6 ∨ (bif h.src.v6 then 1048575 else 65535) < h.id) := by simp_all
                 rw [if_neg hA]
                 simp_all; done)
          · try simp only [Bool.and_eq_true, Bool.or_eq_true, Bool.or_eq_false_iff, Bool.and_eq_false_iff, Bool.not_eq_true', Bool.not_eq_false', decide_eq_true_eq, decide_eq_false_iff_not, Decidable.not_not] at h6
            refine seq ?_
            refine draw' (by kernel_rfl) ?_
            refine take 0 rfl (by kernel_rfl) (by kernel_rfl) (by kernel_rfl) (by repeat first | exact sR | exact sN | apply sC | apply sS | apply sA) (Ev.load (xv := h) ty29 (.t rfl) (ptsVar (by repeat first | exact mH | apply mT | apply mA) (Lens.id _))) ?_
            refine take 2 rfl (by kernel_rfl) (by kernel_rfl) (by kernel_rfl) (by repeat first | exact sR | exact sN | apply sC | apply sS | apply sA) (Ev.move (.t rfl)) ?_
            refine take 4 rfl (by kernel_rfl) (by kernel_rfl) (by kernel_rfl) (by repeat first | exact sR | exact sN | apply sC | apply sS | apply sA) (Ev.fieldAddr (o := 42) (.t rfl) (by kernel_rfl)) ?_
            refine take 5 rfl (by kernel_rfl) (by kernel_rfl) (by kernel_rfl) (by repeat first | exact sR | exact sN | apply sC | apply sS | apply sA) (Ev.load (xv := h.data) ty27 (.t rfl) (ptsVar (by repeat first | exact mH | apply mT | apply mA) SHeader.l_data)) ?_
            refine take 6 rfl (by kernel_rfl) (by kernel_rfl) (by kernel_rfl) (by repeat first | exact sR | exact sN | apply sC | apply sS | apply sA) (Ev.len Try.underlying27 (.t rfl) (fun w I => hd.keep0 I.keeps)) ?_
            refine all [1] (by kernel_rfl) (by decide) (.cons rfl ?_ .nil)
            refine (callv en40 (.cons (.t rfl) .nil) (fun w I => front_ok _ w) ?_)
            refine heldN_of (by repeat first | exact sR | exact sN | apply sC | apply sS | apply sA) ?_
            refine take 3 rfl (by kernel_rfl) (by kernel_rfl) (by kernel_rfl) (by repeat first | exact sR | exact sN | apply sC | apply sS | apply sA) (Ev.add_i (.t rfl) (.t rfl) (fun _ => by omega)) ?_
            refine take 7 rfl (by kernel_rfl) (by kernel_rfl) (by kernel_rfl) (by repeat first | exact sR | exact sN | apply sC | apply sS | apply sA) (Ev.add_i (.t rfl) (.t rfl) (fun _ => by omega)) ?_
            refine take 8 rfl (by kernel_rfl) (by kernel_rfl) (by kernel_rfl) (by repeat first | exact sR | exact sN | apply sC | apply sS | apply sA) (Ev.gtr_i (.t rfl) (.c (v := I 2048) rfl)) ?_
            refine take 9 rfl (by kernel_rfl) (by kernel_rfl) (by kernel_rfl) (by repeat first | exact sR | exact sN | apply sC | apply sS | apply sA) (Ev.assign (.t rfl)) ?_
            refine over (by kernel_rfl) ?_
            refine pN ?_
            first | refine condD rfl (fun h7 => ?_) (fun h7 => ?_) | refine cond rfl (fun h7 => ?_) (fun h7 => ?_)
            · try simp only [Bool.and_eq_true, Bool.or_eq_true, Bool.or_eq_false_iff, Bool.and_eq_false_iff, Bool.not_eq_true', Bool.not_eq_false', decide_eq_true_eq, decide_eq_false_iff_not, Decidable.not_not] at h7
              refine seq ?_
              refine region ?_
              refine cons (opv (Ev.assign (.c (v := I 4) rfl)) ?_)
              refine nil ?_
              refine pN ?_
              refine ret ?_
              refine bR ?_
              refine pR ?_
              refine done rfl (.tmp rfl .nil) (retE ?_)
              first
                | (exfalso; simp_all; done)
                | (have hA : ¬ (checkA h.src ≠ 0 ∨ checkA h.dst ≠ 0 ∨ h.src.v6 ≠ h.dst.v6 ∨ (bif h.src.v6 then 1048575 else 65535) < h.id) := by simp_all
                   have hB : ¬ (midN h.proto = 0 ∧ (h.srcPort ≠ 0 ∨ h.dstPort ≠ 0) ∨ h.proto ≠ 6 ∧ (h.flags ≠ 0 ∨ h.seq ≠ 0)) := by
                     intro hc
                     rcases hc with hc | hc <;> simp_all
                   unfold checkH
                   rw [if_neg hA, if_neg hB]
                   first
                     | (rw [if_pos (by omega)]; rfl)
                     | (rw [if_neg (by omega)]; rfl))
            · try simp only [Bool.and_eq_true, Bool.or_eq_true, Bool.or_eq_false_iff, Bool.and_eq_false_iff, Bool.not_eq_true', Bool.not_eq_false', decide_eq_true_eq, decide_eq_false_iff_not, Decidable.not_not] at h7
              refine skip ?_
              refine bN ?_
              refine pN ?_
              refine seq ?_
              refine region ?_
              refine cons (opv (Ev.assign (.c (v := I 0) rfl)) ?_)
              refine nil ?_
              refine pN ?_
              refine ret ?_
              refine done rfl (.tmp rfl .nil) (retE ?_)
              first
                | (exfalso; simp_all; done)
                | (have hA : ¬ (checkA h.src ≠ 0 ∨ checkA h.dst ≠ 0 ∨ h.src.v6 ≠ h.dst.v6 ∨ (bif h.src.v6 then 1048575 else 65535) < h.id) := by simp_all
                   have hB : ¬ (midN h.proto = 0 ∧ (h.srcPort ≠ 0 ∨ h.dstPort ≠ 0) ∨ h.proto ≠ 6 ∧ (h.flags ≠ 0 ∨ h.seq ≠ 0)) := by
                     intro hc
                     rcases hc with hc | hc <;> simp_all
                   unfold checkH
                   rw [if_neg hA, if_neg hB]
                   first
                     | (rw [if_pos (by omega)]; rfl)
                     | (rw [if_neg (by omega)]; rfl))
    · try simp only [Bool.and_eq_true, Bool.or_eq_true, Bool.or_eq_false_iff, Bool.and_eq_false_iff, Bool.not_eq_true', Bool.not_eq_false', decide_eq_true_eq, decide_eq_false_iff_not, Decidable.not_not] at h1
      refine seq ?_
      refine region ?_
      refine cons (opv (Ev.fieldAddr (o := 17) (.t rfl) (by kernel_rfl)) ?_)
      refine cons (opv (Ev.load (xv := h.dst) ty24 (.t rfl) (ptsVar (by repeat first | exact mH | apply mT | apply mA) SHeader.l_dst)) ?_)
      refine cons (callv en39 (.cons (.t rfl) .nil) (fun w I => checkA_ok _ w) ?_)
      refine cons (opv (Ev.neq_i (.t rfl) (.c (v := I 0) rfl)) ?_)
      refine cons (opv (Ev.assign (.t rfl)) ?_)
      refine nil ?_
      refine pN ?_
      first | refine condD rfl (fun h2 => ?_) (fun h2 => ?_) | refine cond rfl (fun h2 => ?_) (fun h2 => ?_)
      · try simp only [Bool.and_eq_true, Bool.or_eq_true, Bool.or_eq_false_iff, Bool.and_eq_false_iff, Bool.not_eq_true', Bool.not_eq_false', decide_eq_true_eq, decide_eq_false_iff_not, Decidable.not_not] at h2
        refine skip ?_
        refine pN ?_
        first | refine condD rfl (fun h4 => ?_) (fun h4 => ?_) | refine cond rfl (fun h4 => ?_) (fun h4 => ?_)
        · try simp only [Bool.and_eq_true, Bool.or_eq_true, Bool.or_eq_false_iff, Bool.and_eq_false_iff, Bool.not_eq_true', Bool.not_eq_false', decide_eq_true_eq, decide_eq_false_iff_not, Decidable.not_not] at h4
          refine seq ?_
          refine region ?_
          refine cons (opv (Ev.assign (.c (v := I 2) rfl)) ?_)
          refine nil ?_
          refine pN ?_
          refine ret ?_
          refine bR ?_
          refine pR ?_
          refine done rfl (.tmp rfl .nil) (retE ?_)
          unfold checkH
          first
            | (simp_all; done)
            | (have hA : ¬ (checkA h.src ≠ 0 ∨ checkA h.dst ≠ 0 ∨ h.src.v6 ≠ h.dst.v6 ∨ (bif h.src.v6 then 1048575 else 65535) < h.id) := by simp_all
               rw [if_neg hA]
               simp_all; done)
        · try simp only [Bool.and_eq_true, Bool.or_eq_true, Bool.or_eq_false_iff, Bool.and_eq_false_iff, Bool.not_eq_true', Bool.not_eq_false', decide_eq_true_eq, decide_eq_false_iff_not, Decidable.not_not] at h4
          refine seq ?_
          refine seq ?_
          refine region ?_
          refine cons (opv (Ev.move (.t rfl)) ?_)
          refine cons (opv (Ev.eql_i (.t rfl) (.c (v := I 0) rfl)) ?_)
          refine cons (opv (Ev.move (.t rfl)) ?_)
          refine cons (opg rfl rfl (Ev.fieldAddr (o := 35) (.t rfl) (by kernel_rfl)) ?_)
          refine cons (opg rfl rfl (Ev.load (xv := h.srcPort) ty25 (.g rfl id) (ptsVar (by repeat first | exact mH | apply mT | apply mA) SHeader.l_srcPort)) ?_)
          refine cons (opg rfl rfl (Ev.neq_u16 (.g rfl id) (.c (v := U16 0) rfl)) ?_)
          refine cons (opg rfl rfl (Ev.move (.g rfl id)) ?_)
          refine cons (opg rfl rfl (Ev.fieldAddr (o := 36) (.t rfl) (by kernel_rfl)) ?_)
          refine cons (opg rfl rfl (Ev.load (xv := h.dstPort) ty25 (.g rfl id) (ptsVar (by repeat first | exact mH | apply mT | apply mA) SHeader.l_dstPort)) ?_)
          refine cons (opg rfl rfl (Ev.neq_u16 (.g rfl id) (.c (v := U16 0) rfl)) ?_)
          refine cons (opg rfl rfl (Ev.pickO (.g rfl id) (.c (v := .bool true) rfl) (fun {_} h => by cases h; rfl) ⟨_, rfl⟩ (by intro h1 h; first | (rw [h] <;> rfl) | (rw [h1, h] <;> rfl) | (rw [h, h1] <;> rfl) | simp_all)) ?_)
          refine cons (opv (Ev.pickA (.t rfl) (fun {_} h => by cases h; rfl) ⟨_, rfl⟩ (by intro h1 h; first | (rw [h] <;> rfl) | (rw [h1, h] <;> rfl) | (rw [h, h1] <;> rfl) | simp_all) (.c (v := .bool false) rfl)) ?_)
          refine cons (opv (Ev.assign (.t rfl)) ?_)
          refine nil ?_
          refine pN ?_
          first | refine condD rfl (fun h5 => ?_) (fun h5 => ?_) | refine cond rfl (fun h5 => ?_) (fun h5 => ?_)
          · try simp only [Bool.and_eq_true, Bool.or_eq_true, Bool.or_eq_false_iff, Bool.and_eq_false_iff, Bool.not_eq_true', Bool.not_eq_false', decide_eq_true_eq, decide_eq_false_iff_not, Decidable.not_not] at h5
            refine skip ?_
            refine pN ?_
            first | refine condD rfl (fun h6 => ?_) (fun h6 => ?_) | refine cond rfl (fun h6 => ?_) (fun h6 => ?_)
            · try simp only [Bool.and_eq_true, Bool.or_eq_true, Bool.or_eq_false_iff, Bool.and_eq_false_iff, Bool.not_eq_true', Bool.not_eq_false', decide_eq_true_eq, decide_eq_false_iff_not, Decidable.not_not] at h6
              refine seq ?_
              refine region ?_
              refine cons (opv (Ev.assign (.c (v := I 2) rfl)) ?_)
              refine nil ?_
              refine pN ?_
              refine ret ?_
              refine bR ?_
              refine pR ?_
              refine done rfl (.tmp rfl .nil) (retE ?_)
              unfold checkH
              first
                | (simp_all; done)
                | (have hA : ¬ (checkA h.src ≠ 0 ∨ checkA h.dst ≠ 0 ∨ h.src.v6 ≠ h.dst.v6 ∨ (bif h.src.v6 then 1048575 else 65535) < h.id) := by simp_all
                   rw [if_neg hA]
                   simp_all; done)
            · try simp only [Bool.and_eq_true, Bool.or_eq_true, Bool.or_eq_false_iff, Bool.and_eq_false_iff, Bool.not_eq_true', Bool.not_eq_false', decide_eq_true_eq, decide_eq_false_iff_not, Decidable.not_not] at h6
              refine seq ?_
              refine draw' (by kernel_rfl) ?_
              refine take 0 rfl (by kernel_rfl) (by kernel_rfl) (by kernel_rfl) (by repeat first | exact sR | exact sN | apply sC | apply sS | apply sA) (Ev.load (xv := h) ty29 (.t rfl) (ptsVar (by repeat first | exact mH | apply mT | apply mA) (Lens.id _))) ?_
              refine take 2 rfl (by kernel_rfl) (by kernel_rfl) (by kernel_rfl) (by repeat first | exact sR | exact sN | apply sC | apply sS | apply sA) (Ev.move (.t rfl)) ?_
              refine take 4 rfl (by kernel_rfl) (by kernel_rfl) (by kernel_rfl) (by repeat first | exact sR | exact sN | apply sC | apply sS | apply sA) (Ev.fieldAddr (o := 42) (.t rfl) (by kernel_rfl)) ?_
              refine take 5 rfl (by kernel_rfl) (by kernel_rfl) (by kernel_rfl) (by repeat first | exact sR | exact sN | apply sC | apply sS | apply sA) (Ev.load (xv := h.data) ty27 (.t rfl) (ptsVar (by repeat first | exact mH | apply mT | apply mA) SHeader.l_data)) ?_
              refine take 6 rfl (by kernel_rfl) (by kernel_rfl) (by kernel_rfl) (by repeat first | exact sR | exact sN | apply sC | apply sS | apply sA) (Ev.len Try.underlying27 (.t rfl) (fun w I => hd.keep0 I.keeps)) ?_
              refine all [1] (by kernel_rfl) (by decide) (.cons rfl ?_ .nil)
              refine (callv en40 (.cons (.t rfl) .nil) (fun w I => front_ok _ w) ?_)
              refine heldN_of (by repeat first | exact sR | exact sN | apply sC | apply sS | apply sA) ?_
              refine take 3 rfl (by kernel_rfl) (by kernel_rfl) (by kernel_rfl) (by repeat first | exact sR | exact sN | apply sC | apply sS | apply sA) (Ev.add_i (.t rfl) (.t rfl) (fun _ => by omega)) ?_
              refine take 7 rfl (by kernel_rfl) (by kernel_rfl) (by kernel_rfl) (by repeat first | exact sR | exact sN | apply sC | apply sS | apply sA) (Ev.add_i (.t rfl) (.t rfl) (fun _ => by omega)) ?_
              refine take 8 rfl (by kernel_rfl) (by kernel_rfl) (by kernel_rfl) (by repeat first | exact sR | exact sN | apply sC | apply sS | apply sA) (Ev.gtr_i (.t rfl) (.c (v := I 2048) rfl)) ?_
              refine take 9 rfl (by kernel_rfl) (by kernel_rfl) (by kernel_rfl) (by repeat first | exact sR | exact sN | apply sC | apply sS | apply sA) (Ev.assign (.t rfl)) ?_
              refine over (by kernel_rfl) ?_
              refine pN ?_
              first | refine condD rfl (fun h7 => ?_) (fun h7 => ?_) | refine cond rfl (fun h7 => ?_) (fun h7 => ?_)
              · try simp only [Bool.and_eq_true, Bool.or_eq_true, Bool.or_eq_false_iff, Bool.and_eq_false_iff, Bool.not_eq_true', Bool.not_eq_false', decide_eq_true_eq, decide_eq_false_iff_not, Decidable.not_not] at h7
                refine seq ?_
                refine region ?_
                refine cons (opv (Ev.assign (.c (v := I 4) rfl)) ?_)
                refine nil ?_
                refine pN ?_
                refine ret ?_
                refine bR ?_
                refine pR ?_
                refine done rfl (.tmp rfl .nil) (retE ?_)
                first
                  | (exfalso; simp_all; done)
                  | (have hA : ¬ (checkA h.src ≠ 0 ∨ checkA h.dst ≠ 0 ∨ h.src.v6 ≠ h.dst.v6 ∨ (bif h.src.v6 then 1048575 else 65535) < h.id) := by simp_all
                     have hB : ¬ (midN h.proto = 0 ∧ (h.srcPort ≠ 0 ∨ h.dstPort ≠ 0) ∨ h.proto ≠ 6 ∧ (h.flags ≠ 0 ∨ h.seq ≠ 0)) := by
                       intro hc
                       rcases hc with hc | hc <;> simp_all
                     unfold checkH
                     rw [if_neg hA, if_neg hB]
                     first
                       | (rw [if_pos (by omega)]; rfl)
                       | (rw [if_neg (by omega)]; rfl))
              · try simp only [Bool.and_eq_true, Bool.or_eq_true, Bool.or_eq_false_iff, Bool.and_eq_false_iff, Bool.not_eq_true', Bool.not_eq_false', decide_eq_true_eq, decide_eq_false_iff_not, Decidable.not_not] at h7
                refine skip ?_
                refine bN ?_
                refine pN ?_
                refine seq ?_
                refine region ?_
                refine cons (opv (Ev.assign (.c (v := I 0) rfl)) ?_)
                refine nil ?_
                refine pN ?_
                refine ret ?_
                refine done rfl (.tmp rfl .nil) (retE ?_)
                first
                  | (exfalso; simp_all; done)
                  | (have hA : ¬ (checkA h.src ≠ 0 ∨ checkA h.dst ≠ 0 ∨ h.src.v6 ≠ h.dst.v6 ∨ (bif h.src.v6 then 1048575 else 65535) < h.id) := by simp_all
                     have hB : ¬ (midN h.proto = 0 ∧ (h.srcPort ≠ 0 ∨ h.dstPort ≠ 0) ∨ h.proto ≠ 6 ∧ (h.flags ≠ 0 ∨ h.seq ≠ 0)) := by
                       intro hc
                       rcases hc with hc | hc <;> simp_all
                     unfold checkH
                     rw [if_neg hA, if_neg hB]
                     first
                       | (rw [if_pos (by omega)]; rfl)
                       | (rw [if_neg (by omega)]; rfl))
          · try simp only [Bool.and_eq_true, Bool.or_eq_true, Bool.or_eq_false_iff, Bool.and_eq_false_iff, Bool.not_eq_true', Bool.not_eq_false', decide_eq_true_eq, decide_eq_false_iff_not, Decidable.not_not] at h5
            refine region ?_
            refine cons (opv (Ev.fieldAddr (o := 34) (.t rfl) (by kernel_rfl)) ?_)
            refine cons (opv (Ev.load (xv := h.proto) ty5 (.t rfl) (ptsVar (by repeat first | exact mH | apply mT | apply mA) SHeader.l_proto)) ?_)
            refine cons (opv (Ev.neq_u8 (.t rfl) (.c (v := U8 6) rfl)) ?_)
            refine cons (opv (Ev.move (.t rfl)) ?_)
            refine cons (opg rfl rfl (Ev.fieldAddr (o := 40) (.t rfl) (by kernel_rfl)) ?_)
            refine cons (opg rfl rfl (Ev.load (xv := h.flags) ty5 (.g rfl id) (ptsVar (by repeat first | exact mH | apply mT | apply mA) SHeader.l_flags)) ?_)
            refine cons (opg rfl rfl (Ev.neq_u8 (.g rfl id) (.c (v := U8 0) rfl)) ?_)
            refine cons (opg rfl rfl (Ev.move (.g rfl id)) ?_)
            refine cons (opg rfl rfl (Ev.fieldAddr (o := 41) (.t rfl) (by kernel_rfl)) ?_)
            refine cons (opg rfl rfl (Ev.load (xv := h.seq) ty26 (.g rfl id) (ptsVar (by repeat first | exact mH | apply mT | apply mA) SHeader.l_seq)) ?_)
            refine cons (opg rfl rfl (Ev.neq_u32 (.g rfl id) (.c (v := U32 0) rfl)) ?_)
            refine cons (opg rfl rfl (Ev.pickO (.g rfl id) (.c (v := .bool true) rfl) (fun {_} h => by cases h; rfl) ⟨_, rfl⟩ (by intro h1 h; first | (rw [h] <;> rfl) | (rw [h1, h] <;> rfl) | (rw [h, h1] <;> rfl) | simp_all)) ?_)
            refine cons (opv (Ev.pickA (.t rfl) (fun {_} h => by cases h; rfl) ⟨_, rfl⟩ (by intro h1 h; first | (rw [h] <;> rfl) | (rw [h1, h] <;> rfl) | (rw [h, h1] <;> rfl) | simp_all) (.c (v := .bool false) rfl)) ?_)
            refine cons (opv (Ev.assign (.t rfl)) ?_)
            refine nil ?_
            refine pN ?_
            first | refine condD rfl (fun h6 => ?_) (fun h6 => ?_) | refine cond rfl (fun h6 => ?_) (fun h6 => ?_)
            · try simp only [Bool.and_eq_true, Bool.or_eq_true, Bool.or_eq_false_iff, Bool.and_eq_false_iff, Bool.not_eq_true', Bool.not_eq_false', decide_eq_true_eq, decide_eq_false_iff_not, Decidable.not_not] at h6
              refine seq ?_
              refine region ?_
              refine cons (opv (Ev.assign (.c (v := I 2) rfl)) ?_)
              refine nil ?_
              refine pN ?_
              refine ret ?_
              refine bR ?_
              refine pR ?_
              refine done rfl (.tmp rfl .nil) (retE ?_)
              unfold checkH
              first
                | (simp_all; done)
                | (have hA : ¬ (checkA h.src ≠ 0 ∨ checkA h.dst ≠ 0 ∨ h.src.v6 ≠ h.dst.v6 ∨ (bif h.src.v6 then 1048575 else 65535) < h.id) := by simp_all
                   rw [if_neg hA]
                   simp_all; done)
            · try simp only [Bool.and_eq_true, Bool.or_eq_true, Bool.or_eq_false_iff, Bool.and_eq_false_iff, Bool.not_eq_true', Bool.not_eq_false', decide_eq_true_eq, decide_eq_false_iff_not, Decidable.not_not] at h6
              refine seq ?_
              refine draw' (by kernel_rfl) ?_
              refine take 0 rfl (by kernel_rfl) (by kernel_rfl) (by kernel_rfl) (by repeat first | exact sR | exact sN | apply sC | apply sS | apply sA) (Ev.load (xv := h) ty29 (.t rfl) (ptsVar (by repeat first | exact mH | apply mT | apply mA) (Lens.id _))) ?_
              refine take 2 rfl (by kernel_rfl) (by kernel_rfl) (by kernel_rfl) (by repeat first | exact sR | exact sN | apply sC | apply sS | apply sA) (Ev.move (.t rfl)) ?_
              refine take 4 rfl (by kernel_rfl) (by kernel_rfl) (by kernel_rfl) (by repeat first | exact sR | exact sN | apply sC | apply sS | apply sA) (Ev.fieldAddr (o := 42) (.t rfl) (by kernel_rfl)) ?_
              refine take 5 rfl (by kernel_rfl) (by kernel_rfl) (by kernel_rfl) (by repeat first | exact sR | exact sN | apply sC | apply sS | apply sA) (Ev.load (xv := h.data) ty27 (.t rfl) (ptsVar (by repeat first | exact mH | apply mT | apply mA) SHeader.l_data)) ?_
              refine take 6 rfl (by kernel_rfl) (by kernel_rfl) (by kernel_rfl) (by repeat first | exact sR | exact sN | apply sC | apply sS | apply sA) (Ev.len Try.underlying27 (.t rfl) (fun w I => hd.keep0 I.keeps)) ?_
              refine all [1] (by kernel_rfl) (by decide) (.cons rfl ?_ .nil)
              refine (callv en40 (.cons (.t rfl) .nil) (fun w I => front_ok _ w) ?_)
              refine heldN_of (by repeat first | exact sR | exact sN | apply sC | apply sS | apply sA) ?_
              refine take 3 rfl (by kernel_rfl) (by kernel_rfl) (by kernel_rfl) (by repeat first | exact sR | exact sN | apply sC | apply sS | apply sA) (Ev.add_i (.t rfl) (.t rfl) (fun _ => by omega)) ?_
              refine take 7 rfl (by kernel_rfl) (by kernel_rfl) (by kernel_rfl) (by repeat first | exact sR | exact sN | apply sC | apply sS | apply sA) (Ev.add_i (.t rfl) (.t rfl) (fun _ => by omega)) ?_
              refine take 8 rfl (by kernel_rfl) (by kernel_rfl) (by kernel_rfl) (by repeat first | exact sR | exact sN | apply sC | apply sS | apply sA) (Ev.gtr_i (.t rfl) (.c (v := I 2048) rfl)) ?_
              refine take 9 rfl (by kernel_rfl) (by kernel_rfl) (by kernel_rfl) (by repeat first | exact sR | exact sN | apply sC | apply sS | apply sA) (Ev.assign (.t rfl)) ?_
              refine over (by kernel_rfl) ?_
              refine pN ?_
              first | refine condD rfl (fun h7 => ?_) (fun h7 => ?_) | refine cond rfl (fun h7 => ?_) (fun h7 => ?_)
              · try simp only [Bool.and_eq_true, Bool.or_eq_true, Bool.or_eq_false_iff, Bool.and_eq_false_iff, Bool.not_eq_true', Bool.not_eq_false', decide_eq_true_eq, decide_eq_false_iff_not, Decidable.not_not] at h7
                refine seq ?_
                refine region ?_
                refine cons (opv (Ev.assign (.c (v := I 4) rfl)) ?_)
                refine nil ?_
                refine pN ?_
                refine ret ?_
                refine bR ?_
                refine pR ?_
                refine done rfl (.tmp rfl .nil) (retE ?_)
                first
                  | (exfalso; simp_all; done)
                  | (have hA : ¬ (checkA h.src ≠ 0 ∨ checkA h.dst ≠ 0 ∨ h.src.v6 ≠ h.dst.v6 ∨ (bif h.src.v6 then 1048575 else 65535) < h.id) := by simp_all
                     have hB : ¬ (midN h.proto = 0 ∧ (h.srcPort ≠ 0 ∨ h.dstPort ≠ 0) ∨ h.proto ≠ 6 ∧ (h.flags ≠ 0 ∨ h.seq ≠ 0)) := by
                       intro hc
                       rcases hc with hc | hc <;> simp_all
                     unfold checkH
                     rw [if_neg hA, if_neg hB]
                     first
                       | (rw [if_pos (by omega)]; rfl)
                       | (rw [if_neg (by omega)]; rfl))
              · try simp only [Bool.and_eq_true, Bool.or_eq_true, Bool.or_eq_false_iff, Bool.and_eq_false_iff, Bool.not_eq_true', Bool.not_eq_false', decide_eq_true_eq, decide_eq_false_iff_not, Decidable.not_not] at h7
                refine skip ?_
                refine bN ?_
                refine pN ?_
                refine seq ?_
                refine region ?_
                refine cons (opv (Ev.assign (.c (v := I 0) rfl)) ?_)
                refine nil ?_
                refine pN ?_
                refine ret ?_
                refine done rfl (.tmp rfl .nil) (retE ?_)
                first
                  | (exfalso; simp_all; done)
                  | (have hA : ¬ (checkA h.src ≠ 0 ∨ checkA h.dst ≠ 0 ∨ h.src.v6 ≠ h.dst.v6 ∨ (bif h.src.v6 then 1048575 else 65535) < h.id) := by simp_all
                     have hB : ¬ (midN h.proto = 0 ∧ (h.srcPort ≠ 0 ∨ h.dstPort ≠ 0) ∨ h.proto ≠ 6 ∧ (h.flags ≠ 0 ∨ h.seq ≠ 0)) := by
                       intro hc
                       rcases hc with hc | hc <;> simp_all
                     unfold checkH
                     rw [if_neg hA, if_neg hB]
                     first
                       | (rw [if_pos (by omega)]; rfl)
                       | (rw [if_neg (by omega)]; rfl))
      · try simp only [Bool.and_eq_true, Bool.or_eq_true, Bool.or_eq_false_iff, Bool.and_eq_false_iff, Bool.not_eq_true', Bool.not_eq_false', decide_eq_true_eq, decide_eq_false_iff_not, Decidable.not_not] at h2
        refine seq ?_
        refine region ?_
        refine cons (opv (Ev.fieldAddr (o := 0) (.t rfl) (by kernel_rfl)) ?_)
        refine cons (opv (Ev.fieldAddr (o := 0) (.t rfl) (by kernel_rfl)) ?_)
        refine cons (opv (Ev.load (xv := h.src.v6) ty4 (.t rfl) (ptsVar (by repeat first | exact mH | apply mT | apply mA) (Lens.comp SHeader.l_src SAddr.l_v6))) ?_)
        refine cons (opv (Ev.fieldAddr (o := 17) (.t rfl) (by kernel_rfl)) ?_)
        refine cons (opv (Ev.fieldAddr (o := 0) (.t rfl) (by kernel_rfl)) ?_)
        refine cons (opv (Ev.load (xv := h.dst.v6) ty4 (.t rfl) (ptsVar (by repeat first | exact mH | apply mT | apply mA) (Lens.comp SHeader.l_dst SAddr.l_v6))) ?_)
        refine cons (opv (Ev.neq_b Try.underlying4 (.t rfl) (.t rfl)) ?_)
        refine cons (opv (Ev.assign (.t rfl)) ?_)
        refine nil ?_
        refine pN ?_
        first | refine condD rfl (fun h3 => ?_) (fun h3 => ?_) | refine cond rfl (fun h3 => ?_) (fun h3 => ?_)
        · try simp only [Bool.and_eq_true, Bool.or_eq_true, Bool.or_eq_false_iff, Bool.and_eq_false_iff, Bool.not_eq_true', Bool.not_eq_false', decide_eq_true_eq, decide_eq_false_iff_not, Decidable.not_not] at h3
          refine skip ?_
          refine pN ?_
          first | refine condD rfl (fun h4 => ?_) (fun h4 => ?_) | refine cond rfl (fun h4 => ?_) (fun h4 => ?_)
          · try simp only [Bool.and_eq_true, Bool.or_eq_true, Bool.or_eq_false_iff, Bool.and_eq_false_iff, Bool.not_eq_true', Bool.not_eq_false', decide_eq_true_eq, decide_eq_false_iff_not, Decidable.not_not] at h4
            refine seq ?_
            refine region ?_
            refine cons (opv (Ev.assign (.c (v := I 2) rfl)) ?_)
            refine nil ?_
            refine pN ?_
            refine ret ?_
            refine bR ?_
            refine pR ?_
            refine done rfl (.tmp rfl .nil) (retE ?_)
            unfold checkH
            first
              | (simp_all; done)
              | (have hA : ¬ (checkA h.src ≠ 0 ∨ checkA h.dst ≠ 0 ∨ h.src.v6 ≠ h.dst.v6 ∨ (bif h.src.v6 then 1048575 else 65535) < h.id) := by simp_all
                 rw [if_neg hA]
                 simp_all; done)
          · try simp only [Bool.and_eq_true, Bool.or_eq_true, Bool.or_eq_false_iff, Bool.and_eq_false_iff, Bool.not_eq_true', Bool.not_eq_false', decide_eq_true_eq, decide_eq_false_iff_not, Decidable.not_not] at h4
            refine seq ?_
            refine seq ?_
            refine region ?_
            refine cons (opv (Ev.move (.t rfl)) ?_)
            refine cons (opv (Ev.eql_i (.t rfl) (.c (v := I 0) rfl)) ?_)
            refine cons (opv (Ev.move (.t rfl)) ?_)
            refine cons (opg rfl rfl (Ev.fieldAddr (o := 35) (.t rfl) (by kernel_rfl)) ?_)
            refine cons (opg rfl rfl (Ev.load (xv := h.srcPort) ty25 (.g rfl id) (ptsVar (by repeat first | exact mH | apply mT | apply mA) SHeader.l_srcPort)) ?_)
            refine cons (opg rfl rfl (Ev.neq_u16 (.g rfl id) (.c (v := U16 0) rfl)) ?_)
            refine cons (opg rfl rfl (Ev.move (.g rfl id)) ?_)
            refine cons (opg rfl rfl (Ev.fieldAddr (o := 36) (.t rfl) (by kernel_rfl)) ?_)
            refine cons (opg rfl rfl (Ev.load (xv := h.dstPort) ty25 (.g rfl id) (ptsVar (by repeat first | exact mH | apply mT | apply mA) SHeader.l_dstPort)) ?_)
            refine cons (opg rfl rfl (Ev.neq_u16 (.g rfl id) (.c (v := U16 0) rfl)) ?_)
            refine cons (opg rfl rfl (Ev.pickO (.g rfl id) (.c (v := .bool true) rfl) (fun {_} h => by cases h; rfl) ⟨_, rfl⟩ (by intro h1 h; first | (rw [h] <;> rfl) | (rw [h1, h] <;> rfl) | (rw [h, h1] <;> rfl) | simp_all)) ?_)
            refine cons (opv (Ev.pickA (.t rfl) (fun {_} h => by cases h; rfl) ⟨_, rfl⟩ (by intro h1 h; first | (rw [h] <;> rfl) | (rw [h1, h] <;> rfl) | (rw [h, h1] <;> rfl) | simp_all) (.c (v := .bool false) rfl)) ?_)
            refine cons (opv (Ev.assign (.t rfl)) ?_)
            refine nil ?_
            refine pN ?_
            first | refine condD rfl (fun h5 => ?_) (fun h5 => ?_) | refine cond rfl (fun h5 => ?_) (fun h5 => ?_)
            · try simp only [Bool.and_eq_true, Bool.or_eq_true, Bool.or_eq_false_iff, Bool.and_eq_false_iff, Bool.not_eq_true', Bool.not_eq_false', decide_eq_true_eq, decide_eq_false_iff_not, Decidable.not_not] at h5
              refine skip ?_
              refine pN ?_
              first | refine condD rfl (fun h6 => ?_) (fun h6 => ?_) | refine cond rfl (fun h6 => ?_) (fun h6 => ?_)
              · try simp only [Bool.and_eq_true, Bool.or_eq_true, Bool.or_eq_false_iff, Bool.and_eq_false_iff, Bool.not_eq_true', Bool.not_eq_false', decide_eq_true_eq, decide_eq_false_iff_not, Decidable.not_not] at h6
                refine seq ?_
                refine region ?_
                refine cons (opv (Ev.assign (.c (v := I 2) rfl)) ?_)
                refine nil ?_
                refine pN ?_
                refine ret ?_
                refine bR ?_
                refine pR ?_
                refine done rfl (.tmp rfl .nil) (retE ?_)
                unfold checkH
                first
                  | (simp_all; done)
                  | (have hA : ¬ (checkA h.src ≠ 0 ∨ checkA h.dst ≠ 0 ∨ h.src.v6 ≠ h.dst.v6 ∨ (bif h.src.v6 then 1048575 else 65535) < h.id) := by simp_all
                     rw [if_neg hA]
                     simp_all; done)
              · try simp only [Bool.and_eq_true, Bool.or_eq_true, Bool.or_eq_false_iff, Bool.and_eq_false_iff, Bool.not_eq_true', Bool.not_eq_false', decide_eq_true_eq, decide_eq_false_iff_not, Decidable.not_not] at h6
                refine seq ?_
                refine draw' (by kernel_rfl) ?_
                refine take 0 rfl (by kernel_rfl) (by kernel_rfl) (by kernel_rfl) (by repeat first | exact sR | exact sN | apply sC | apply sS | apply sA) (Ev.load (xv := h) ty29 (.t rfl) (ptsVar (by repeat first | exact mH | apply mT | apply mA) (Lens.id _))) ?_
                refine take 2 rfl (by kernel_rfl) (by kernel_rfl) (by kernel_rfl) (by repeat first | exact sR | exact sN | apply sC | apply sS | apply sA) (Ev.move (.t rfl)) ?_
                refine take 4 rfl (by kernel_rfl) (by kernel_rfl) (by kernel_rfl) (by repeat first | exact sR | exact sN | apply sC | apply sS | apply sA) (Ev.fieldAddr (o := 42) (.t rfl) (by kernel_rfl)) ?_
                refine take 5 rfl (by kernel_rfl) (by kernel_rfl) (by kernel_rfl) (by repeat first | exact sR | exact sN | apply sC | apply sS | apply sA) (Ev.load (xv := h.data) ty27 (.t rfl) (ptsVar (by repeat first | exact mH | apply mT | apply mA) SHeader.l_data)) ?_
                refine take 6 rfl (by kernel_rfl) (by kernel_rfl) (by kernel_rfl) (by repeat first | exact sR | exact sN | apply sC | apply sS | apply sA) (Ev.len Try.underlying27 (.t rfl) (fun w I => hd.keep0 I.keeps)) ?_
                refine all [1] (by kernel_rfl) (by decide) (.cons rfl ?_ .nil)
                refine (callv en40 (.cons (.t rfl) .nil) (fun w I => front_ok _ w) ?_)
                refine heldN_of (by repeat first | exact sR | exact sN | apply sC | apply sS | apply sA) ?_
                refine take 3 rfl (by kernel_rfl) (by kernel_rfl) (by kernel_rfl) (by repeat first | exact sR | exact sN | apply sC | apply sS | apply sA) (Ev.add_i (.t rfl) (.t rfl) (fun _ => by omega)) ?_
                refine take 7 rfl (by kernel_rfl) (by kernel_rfl) (by kernel_rfl) (by repeat first | exact sR | exact sN | apply sC | apply sS | apply sA) (Ev.add_i (.t rfl) (.t rfl) (fun _ => by omega)) ?_
                refine take 8 rfl (by kernel_rfl) (by kernel_rfl) (by kernel_rfl) (by repeat first | exact sR | exact sN | apply sC | apply sS | apply sA) (Ev.gtr_i (.t rfl) (.c (v := I 2048) rfl)) ?_
                refine take 9 rfl (by kernel_rfl) (by kernel_rfl) (by kernel_rfl) (by repeat first | exact sR | exact sN | apply sC | apply sS | apply sA) (Ev.assign (.t rfl)) ?_
                refine over (by kernel_rfl) ?_
                refine pN ?_
                first | refine condD rfl (fun h7 => ?_) (fun h7 => ?_) | refine cond rfl (fun h7 => ?_) (fun h7 => ?_)
                · try simp only [Bool.and_eq_true, Bool.or_eq_true, Bool.or_eq_false_iff, Bool.and_eq_false_iff, Bool.not_eq_true', Bool.not_eq_false', decide_eq_true_eq, decide_eq_false_iff_not, Decidable.not_not] at h7
                  refine seq ?_
                  refine region ?_
                  refine cons (opv (Ev.assign (.c (v := I 4) rfl)) ?_)
                  refine nil ?_
                  refine pN ?_
                  refine ret ?_
                  refine bR ?_
                  refine pR ?_
                  refine done rfl (.tmp rfl .nil) (retE ?_)
                  first
                    | (exfalso; simp_all; done)
                    | (have hA : ¬ (checkA h.src ≠ 0 ∨ checkA h.dst ≠ 0 ∨ h.src.v6 ≠ h.dst.v6 ∨ (bif h.src.v6 then 1048575 else 65535) < h.id) := by simp_all
                       have hB : ¬ (midN h.proto = 0 ∧ (h.srcPort ≠ 0 ∨ h.dstPort ≠ 0) ∨ h.proto ≠ 6 ∧ (h.flags ≠ 0 ∨ h.seq ≠ 0)) := by
                         intro hc
                         rcases hc with hc | hc <;> simp_all
                       unfold checkH
                       rw [if_neg hA, if_neg hB]
                       first
                         | (rw [if_pos (by omega)]; rfl)
                         | (rw [if_neg (by omega)]; rfl))
                · try simp only [Bool.and_eq_true, Bool.or_eq_true, Bool.or_eq_false_iff, Bool.and_eq_false_iff, Bool.not_eq_true', Bool.not_eq_false', decide_eq_true_eq, decide_eq_false_iff_not, Decidable.not_not] at h7
                  refine skip ?_
                  refine bN ?_
                  refine pN ?_
                  refine seq ?_
                  refine region ?_
                  refine cons (opv (Ev.assign (.c (v := I 0) rfl)) ?_)
                  refine nil ?_
                  refine pN ?_
                  refine ret ?_
                  refine done rfl (.tmp rfl .nil) (retE ?_)
                  first
                    | (exfalso; simp_all; done)
                    | (have hA : ¬ (checkA h.src ≠ 0 ∨ checkA h.dst ≠ 0 ∨ h.src.v6 ≠ h.dst.v6 ∨ (bif h.src.v6 then 1048575 else 65535) < h.id) := by simp_all
                       have hB : ¬ (midN h.proto = 0 ∧ (h.srcPort ≠ 0 ∨ h.dstPort ≠ 0) ∨ h.proto ≠ 6 ∧ (h.flags ≠ 0 ∨ h.seq ≠ 0)) := by
                         intro hc
                         rcases hc with hc | hc <;> simp_all
                       unfold checkH
                       rw [if_neg hA, if_neg hB]
                       first
                         | (rw [if_pos (by omega)]; rfl)
                         | (rw [if_neg (by omega)]; rfl))
            · try simp only [Bool.and_eq_true, Bool.or_eq_true, Bool.or_eq_false_iff, Bool.and_eq_false_iff, Bool.not_eq_true', Bool.not_eq_false', decide_eq_true_eq, decide_eq_false_iff_not, Decidable.not_not] at h5
              refine region ?_
              refine cons (opv (Ev.fieldAddr (o := 34) (.t rfl) (by kernel_rfl)) ?_)
              refine cons (opv (Ev.load (xv := h.proto) ty5 (.t rfl) (ptsVar (by repeat first | exact mH | apply mT | apply mA) SHeader.l_proto)) ?_)
              refine cons (opv (Ev.neq_u8 (.t rfl) (.c (v := U8 6) rfl)) ?_)
              refine cons (opv (Ev.move (.t rfl)) ?_)
              refine cons (opg rfl rfl (Ev.fieldAddr (o := 40) (.t rfl) (by kernel_rfl)) ?_)
              refine cons (opg rfl rfl (Ev.load (xv := h.flags) ty5 (.g rfl id) (ptsVar (by repeat first | exact mH | apply mT | apply mA) SHeader.l_flags)) ?_)
              refine cons (opg rfl rfl (Ev.neq_u8 (.g rfl id) (.c (v := U8 0) rfl)) ?_)
              refine cons (opg rfl rfl (Ev.move (.g rfl id)) ?_)
              refine cons (opg rfl rfl (Ev.fieldAddr (o := 41) (.t rfl) (by kernel_rfl)) ?_)
              refine cons (opg rfl rfl (Ev.load (xv := h.seq) ty26 (.g rfl id) (ptsVar (by repeat first | exact mH | apply mT | apply mA) SHeader.l_seq)) ?_)
              refine cons (opg rfl rfl (Ev.neq_u32 (.g rfl id) (.c (v := U32 0) rfl)) ?_)
              refine cons (opg rfl rfl (Ev.pickO (.g rfl id) (.c (v := .bool true) rfl) (fun {_} h => by cases h; rfl) ⟨_, rfl⟩ (by intro h1 h; first | (rw [h] <;> rfl) | (rw [h1, h] <;> rfl) | (rw [h, h1] <;> rfl) | simp_all)) ?_)
              refine cons (opv (Ev.pickA (.t rfl) (fun {_} h => by cases h; rfl) ⟨_, rfl⟩ (by intro h1 h; first | (rw [h] <;> rfl) | (rw [h1, h] <;> rfl) | (rw [h, h1] <;> rfl) | simp_all) (.c (v := .bool false) rfl)) ?_)
              refine cons (opv (Ev.assign (.t rfl)) ?_)
              refine nil ?_
              refine pN ?_
              first | refine condD rfl (fun h6 => ?_) (fun h6 => ?_) | refine cond rfl (fun h6 => ?_) (fun h6 => ?_)
              · try simp only [Bool.and_eq_true, Bool.or_eq_true, Bool.or_eq_false_iff, Bool.and_eq_false_iff, Bool.not_eq_true', Bool.not_eq_false', decide_eq_true_eq, decide_eq_false_iff_not, Decidable.not_not] at h6
                refine seq ?_
                refine region ?_
                refine cons (opv (Ev.assign (.c (v := I 2) rfl)) ?_)
                refine nil ?_
                refine pN ?_
                refine ret ?_
                refine bR ?_
                refine pR ?_
                refine done rfl (.tmp rfl .nil) (retE ?_)
                unfold checkH
                first
                  | (simp_all; done)
                  | (have hA : ¬ (checkA h.src ≠ 0 ∨ checkA h.dst ≠ 0 ∨ h.src.v6 ≠ h.dst.v6 ∨ (bif h.src.v6 then 1048575 else 65535) < h.id) := by simp_all
                     rw [if_neg hA]
                     simp_all; done)
              · try simp only [Bool.and_eq_true, Bool.or_eq_true, Bool.or_eq_false_iff, Bool.and_eq_false_iff, Bool.not_eq_true', Bool.not_eq_false', decide_eq_true_eq, decide_eq_false_iff_not, Decidable.not_not] at h6
                refine seq ?_
                refine draw' (by kernel_rfl) ?_
                refine take 0 rfl (by kernel_rfl) (by kernel_rfl) (by kernel_rfl) (by repeat first | exact sR | exact sN | apply sC | apply sS | apply sA) (Ev.load (xv := h) ty29 (.t rfl) (ptsVar (by repeat first | exact mH | apply mT | apply mA) (Lens.id _))) ?_
                refine take 2 rfl (by kernel_rfl) (by kernel_rfl) (by kernel_rfl) (by repeat first | exact sR | exact sN | apply sC | apply sS | apply sA) (Ev.move (.t rfl)) ?_
                refine take 4 rfl (by kernel_rfl) (by kernel_rfl) (by kernel_rfl) (by repeat first | exact sR | exact sN | apply sC | apply sS | apply sA) (Ev.fieldAddr (o := 42) (.t rfl) (by kernel_rfl)) ?_
                refine take 5 rfl (by kernel_rfl) (by kernel_rfl) (by kernel_rfl) (by repeat first | exact sR | exact sN | apply sC | apply sS | apply sA) (Ev.load (xv := h.data) ty27 (.t rfl) (ptsVar (by repeat first | exact mH | apply mT | apply mA) SHeader.l_data)) ?_
                refine take 6 rfl (by kernel_rfl) (by kernel_rfl) (by kernel_rfl) (by repeat first | exact sR | exact sN | apply sC | apply sS | apply sA) (Ev.len Try.underlying27 (.t rfl) (fun w I => hd.keep0 I.keeps)) ?_
                refine all [1] (by kernel_rfl) (by decide) (.cons rfl ?_ .nil)
                refine (callv en40 (.cons (.t rfl) .nil) (fun w I => front_ok _ w) ?_)
                refine heldN_of (by repeat first | exact sR | exact sN | apply sC | apply sS | apply sA) ?_
                refine take 3 rfl (by kernel_rfl) (by kernel_rfl) (by kernel_rfl) (by repeat first | exact sR | exact sN | apply sC | apply sS | apply sA) (Ev.add_i (.t rfl) (.t rfl) (fun _ => by omega)) ?_
                refine take 7 rfl (by kernel_rfl) (by kernel_rfl) (by kernel_rfl) (by repeat first | exact sR | exact sN | apply sC | apply sS | apply sA) (Ev.add_i (.t rfl) (.t rfl) (fun _ => by omega)) ?_
                refine take 8 rfl (by kernel_rfl) (by kernel_rfl) (by kernel_rfl) (by repeat first | exact sR | exact sN | apply sC | apply sS | apply sA) (Ev.gtr_i (.t rfl) (.c (v := I 2048) rfl)) ?_
                refine take 9 rfl (by kernel_rfl) (by kernel_rfl) (by kernel_rfl) (by repeat first | exact sR | exact sN | apply sC | apply sS | apply sA) (Ev.assign (.t rfl)) ?_
                refine over (by kernel_rfl) ?_
                refine pN ?_
                first | refine condD rfl (fun h7 => ?_) (fun h7 => ?_) | refine cond rfl (fun h7 => ?_) (fun h7 => ?_)
                · try simp only [Bool.and_eq_true, Bool.or_eq_true, Bool.or_eq_false_iff, Bool.and_eq_false_iff, Bool.not_eq_true', Bool.not_eq_false', decide_eq_true_eq, decide_eq_false_iff_not, Decidable.not_not] at h7
                  refine seq ?_
                  refine region ?_
                  refine cons (opv (Ev.assign (.c (v := I 4) rfl)) ?_)
                  refine nil ?_
                  refine pN ?_
                  refine ret ?_
                  refine bR ?_
                  refine pR ?_
                  refine done rfl (.tmp rfl .nil) (retE ?_)
                  first
                    | (exfalso; simp_all; done)
                    | (have hA : ¬ (checkA h.src ≠ 0 ∨ checkA h.dst ≠ 0 ∨ h.src.v6 ≠ h.dst.v6 ∨ (bif h.src.v6 then 1048575 else 65535) < h.id) := by simp_all
                       have hB : ¬ (midN h.proto = 0 ∧ (h.srcPort ≠ 0 ∨ h.dstPort ≠ 0) ∨ h.proto ≠ 6 ∧ (h.flags ≠ 0 ∨ h.seq ≠ 0)) := by
                         intro hc
                         rcases hc with hc | hc <;> simp_all
                       unfold checkH
                       rw [if_neg hA, if_neg hB]
                       first
                         | (rw [if_pos (by omega)]; rfl)
                         | (rw [if_neg (by omega)]; rfl))
                · try simp only [Bool.and_eq_true, Bool.or_eq_true, Bool.or_eq_false_iff, Bool.and_eq_false_iff, Bool.not_eq_true', Bool.not_eq_false', decide_eq_true_eq, decide_eq_false_iff_not, Decidable.not_not] at h7
                  refine skip ?_
                  refine bN ?_
                  refine pN ?_
                  refine seq ?_
                  refine region ?_
                  refine cons (opv (Ev.assign (.c (v := I 0) rfl)) ?_)
                  refine nil ?_
                  refine pN ?_
                  refine ret ?_
                  refine done rfl (.tmp rfl .nil) (retE ?_)
                  first
                    | (exfalso; simp_all; done)
                    | (have hA : ¬ (checkA h.src ≠ 0 ∨ checkA h.dst ≠ 0 ∨ h.src.v6 ≠ h.dst.v6 ∨ (bif h.src.v6 then 1048575 else 65535) < h.id) := by simp_all
                       have hB : ¬ (midN h.proto = 0 ∧ (h.srcPort ≠ 0 ∨ h.dstPort ≠ 0) ∨ h.proto ≠ 6 ∧ (h.flags ≠ 0 ∨ h.seq ≠ 0)) := by
                         intro hc
                         rcases hc with hc | hc <;> simp_all
                       unfold checkH
                       rw [if_neg hA, if_neg hB]
                       first
                         | (rw [if_pos (by omega)]; rfl)
                         | (rw [if_neg (by omega)]; rfl))
        · try simp only [Bool.and_eq_true, Bool.or_eq_true, Bool.or_eq_false_iff, Bool.and_eq_false_iff, Bool.not_eq_true', Bool.not_eq_false', decide_eq_true_eq, decide_eq_false_iff_not, Decidable.not_not] at h3
          refine region ?_
          refine cons (opv (Ev.fieldAddr (o := 39) (.t rfl) (by kernel_rfl)) ?_)
          refine cons (opv (Ev.load (xv := h.id) ty26 (.t rfl) (ptsVar (by repeat first | exact mH | apply mT | apply mA) SHeader.l_id)) ?_)
          refine cons (opv (Ev.move (.t rfl)) ?_)
          refine cons (opv (Ev.gtr_u32 (.t rfl) (.t rfl)) ?_)
          refine cons (opv (Ev.assign (.t rfl)) ?_)
          refine nil ?_
          refine pN ?_
          first | refine condD rfl (fun h4 => ?_) (fun h4 => ?_) | refine cond rfl (fun h4 => ?_) (fun h4 => ?_)
          · try simp only [Bool.and_eq_true, Bool.or_eq_true, Bool.or_eq_false_iff, Bool.and_eq_false_iff, Bool.not_eq_true', Bool.not_eq_false', decide_eq_true_eq, decide_eq_false_iff_not, Decidable.not_not] at h4
            refine seq ?_
            refine region ?_
            refine cons (opv (Ev.assign (.c (v := I 2) rfl)) ?_)
            refine nil ?_
            refine pN ?_
            refine ret ?_
            refine bR ?_
            refine pR ?_
            refine done rfl (.tmp rfl .nil) (retE ?_)
            unfold checkH
            first
              | (simp_all; done)
              | (have hA : ¬ (checkA h.src ≠ 0 ∨ checkA h.dst ≠ 0 ∨ h.src.v6 ≠ h.dst.v6 ∨ (bif h.src.v6 then 1048575 else 65535) < h.id) := by simp_all
                 rw [if_neg hA]
                 simp_all; done)
          · try simp only [Bool.and_eq_true, Bool.or_eq_true, Bool.or_eq_false_iff, Bool.and_eq_false_iff, Bool.not_eq_true', Bool.not_eq_false', decide_eq_true_eq, decide_eq_false_iff_not, Decidable.not_not] at h4
            refine seq ?_
            refine seq ?_
            refine region ?_
            refine cons (opv (Ev.move (.t rfl)) ?_)
            refine cons (opv (Ev.eql_i (.t rfl) (.c (v := I 0) rfl)) ?_)
            refine cons (opv (Ev.move (.t rfl)) ?_)
            refine cons (opg rfl rfl (Ev.fieldAddr (o := 35) (.t rfl) (by kernel_rfl)) ?_)
            refine cons (opg rfl rfl (Ev.load (xv := h.srcPort) ty25 (.g rfl id) (ptsVar (by repeat first | exact mH | apply mT | apply mA) SHeader.l_srcPort)) ?_)
            refine cons (opg rfl rfl (Ev.neq_u16 (.g rfl id) (.c (v := U16 0) rfl)) ?_)
            refine cons (opg rfl rfl (Ev.move (.g rfl id)) ?_)
            refine cons (opg rfl rfl (Ev.fieldAddr (o := 36) (.t rfl) (by kernel_rfl)) ?_)
            refine cons (opg rfl rfl (Ev.load (xv := h.dstPort) ty25 (.g rfl id) (ptsVar (by repeat first | exact mH | apply mT | apply mA) SHeader.l_dstPort)) ?_)
            refine cons (opg rfl rfl (Ev.neq_u16 (.g rfl id) (.c (v := U16 0) rfl)) ?_)
            refine cons (opg rfl rfl (Ev.pickO (.g rfl id) (.c (v := .bool true) rfl) (fun {_} h => by cases h; rfl) ⟨_, rfl⟩ (by intro h1 h; first | (rw [h] <;> rfl) | (rw [h1, h] <;> rfl) | (rw [h, h1] <;> rfl) | simp_all)) ?_)
            refine cons (opv (Ev.pickA (.t rfl) (fun {_} h => by cases h; rfl) ⟨_, rfl⟩ (by intro h1 h; first | (rw [h] <;> rfl) | (rw [h1, h] <;> rfl) | (rw [h, h1] <;> rfl) | simp_all) (.c (v := .bool false) rfl)) ?_)
            refine cons (opv (Ev.assign (.t rfl)) ?_)
            refine nil ?_
            refine pN ?_
            first | refine condD rfl (fun h5 => ?_) (fun h5 => ?_) | refine cond rfl (fun h5 => ?_) (fun h5 => ?_)
            · try simp only [Bool.and_eq_true, Bool.or_eq_true, Bool.or_eq_false_iff, Bool.and_eq_false_iff, Bool.not_eq_true', Bool.not_eq_false', decide_eq_true_eq, decide_eq_false_iff_not, Decidable.not_not] at h5
              refine skip ?_
              refine pN ?_
              first | refine condD rfl (fun h6 => ?_) (fun h6 => ?_) | refine cond rfl (fun h6 => ?_) (fun h6 => ?_)
              · try simp only [Bool.and_eq_true, Bool.or_eq_true, Bool.or_eq_false_iff, Bool.and_eq_false_iff, Bool.not_eq_true', Bool.not_eq_false', decide_eq_true_eq, decide_eq_false_iff_not, Decidable.not_not] at h6
                refine seq ?_
                refine region ?_
                refine cons (opv (Ev.assign (.c (v := I 2) rfl)) ?_)
                refine nil ?_
                refine pN ?_
                refine ret ?_
                refine bR ?_
                refine pR ?_
                refine done rfl (.tmp rfl .nil) (retE ?_)
                unfold checkH
                first
                  | (simp_all; done)
                  | (have hA : ¬ (checkA h.src ≠ 0 ∨ checkA h.dst ≠ 0 ∨ h.src.v6 ≠ h.dst.v6 ∨ (bif h.src.v6 then 1048575 else 65535) < h.id) := by simp_all
                     rw [if_neg hA]
                     simp_all; done)
              · try simp only [Bool.and_eq_true, Bool.or_eq_true, Bool.or_eq_false_iff, Bool.and_eq_false_iff, Bool.not_eq_true', Bool.not_eq_false', decide_eq_true_eq, decide_eq_false_iff_not, Decidable.not_not] at h6
                refine seq ?_
                refine draw' (by kernel_rfl) ?_
                refine take 0 rfl (by kernel_rfl) (by kernel_rfl) (by kernel_rfl) (by repeat first | exact sR | exact sN | apply sC | apply sS | apply sA) (Ev.load (xv := h) ty29 (.t rfl) (ptsVar (by repeat first | exact mH | apply mT | apply mA) (Lens.id _))) ?_
                refine take 2 rfl (by kernel_rfl) (by kernel_rfl) (by kernel_rfl) (by repeat first | exact sR | exact sN | apply sC | apply sS | apply sA) (Ev.move (.t rfl)) ?_
                refine take 4 rfl (by kernel_rfl) (by kernel_rfl) (by kernel_rfl) (by repeat first | exact sR | exact sN | apply sC | apply sS | apply sA) (Ev.fieldAddr (o := 42) (.t rfl) (by kernel_rfl)) ?_
                refine take 5 rfl (by kernel_rfl) (by kernel_rfl) (by kernel_rfl) (by repeat first | exact sR | exact sN | apply sC | apply sS | apply sA) (Ev.load (xv := h.data) ty27 (.t rfl) (ptsVar (by repeat first | exact mH | apply mT | apply mA) SHeader.l_data)) ?_
                refine take 6 rfl (by kernel_rfl) (by kernel_rfl) (by kernel_rfl) (by repeat first | exact sR | exact sN | apply sC | apply sS | apply sA) (Ev.len Try.underlying27 (.t rfl) (fun w I => hd.keep0 I.keeps)) ?_
                refine all [1] (by kernel_rfl) (by decide) (.cons rfl ?_ .nil)
                refine (callv en40 (.cons (.t rfl) .nil) (fun w I => front_ok _ w) ?_)
                refine heldN_of (by repeat first | exact sR | exact sN | apply sC | apply sS | apply sA) ?_
                refine take 3 rfl (by kernel_rfl) (by kernel_rfl) (by kernel_rfl) (by repeat first | exact sR | exact sN | apply sC | apply sS | apply sA) (Ev.add_i (.t rfl) (.t rfl) (fun _ => by omega)) ?_
                refine take 7 rfl (by kernel_rfl) (by kernel_rfl) (by kernel_rfl) (by repeat first | exact sR | exact sN | apply sC | apply sS | apply sA) (Ev.add_i (.t rfl) (.t rfl) (fun _ => by omega)) ?_
                refine take 8 rfl (by kernel_rfl) (by kernel_rfl) (by kernel_rfl) (by repeat first | exact sR | exact sN | apply sC | apply sS | apply sA) (Ev.gtr_i (.t rfl) (.c (v := I 2048) rfl)) ?_
                refine take 9 rfl (by kernel_rfl) (by kernel_rfl) (by kernel_rfl) (by repeat first | exact sR | exact sN | apply sC | apply sS | apply sA) (Ev.assign (.t rfl)) ?_
                refine over (by kernel_rfl) ?_
                refine pN ?_
                first | refine condD rfl (fun h7 => ?_) (fun h7 => ?_) | refine cond rfl (fun h7 => ?_) (fun h7 => ?_)
                · try simp only [Bool.and_eq_true, Bool.or_eq_true, Bool.or_eq_false_iff, Bool.and_eq_false_iff, Bool.not_eq_true', Bool.not_eq_false', decide_eq_true_eq, decide_eq_false_iff_not, Decidable.not_not] at h7
                  refine seq ?_
                  refine region ?_
                  refine cons (opv (Ev.assign (.c (v := I 4) rfl)) ?_)
                  refine nil ?_
                  refine pN ?_
                  refine ret ?_
                  refine bR ?_
                  refine pR ?_
                  refine done rfl (.tmp rfl .nil) (retE ?_)
                  first
                    | (exfalso; simp_all; done)
                    | (have hA : ¬ (checkA h.src ≠ 0 ∨ checkA h.dst ≠ 0 ∨ h.src.v6 ≠ h.dst.v6 ∨ (bif h.src.v6 then 1048575 else 65535) < h.id) := by simp_all
                       have hB : ¬ (midN h.proto = 0 ∧ (h.srcPort ≠ 0 ∨ h.dstPort ≠ 0) ∨ h.proto ≠ 6 ∧ (h.flags ≠ 0 ∨ h.seq ≠ 0)) := by
                         intro hc
                         rcases hc with hc | hc <;> simp_all
                       unfold checkH
                       rw [if_neg hA, if_neg hB]
                       first
                         | (rw [if_pos (by omega)]; rfl)
                         | (rw [if_neg (by omega)]; rfl))
                · try simp only [Bool.and_eq_true, Bool.or_eq_true, Bool.or_eq_false_iff, Bool.and_eq_false_iff, Bool.not_eq_true', Bool.not_eq_false', decide_eq_true_eq, decide_eq_false_iff_not, Decidable.not_not] at h7
                  refine skip ?_
                  refine bN ?_
                  refine pN ?_
                  refine seq ?_
                  refine region ?_
                  refine cons (opv (Ev.assign (.c (v := I 0) rfl)) ?_)
                  refine nil ?_
                  refine pN ?_
                  refine ret ?_
                  refine done rfl (.tmp rfl .nil) (retE ?_)
                  first
                    | (exfalso; simp_all; done)
                    | (have hA : ¬ (checkA h.src ≠ 0 ∨ checkA h.dst ≠ 0 ∨ h.src.v6 ≠ h.dst.v6 ∨ (bif h.src.v6 then 1048575 else 65535) < h.id) := by simp_all
                       have hB : ¬ (midN h.proto = 0 ∧ (h.srcPort ≠ 0 ∨ h.dstPort ≠ 0) ∨ h.proto ≠ 6 ∧ (h.flags ≠ 0 ∨ h.seq ≠ 0)) := by
                         intro hc
                         rcases hc with hc | hc <;> simp_all
                       unfold checkH
                       rw [if_neg hA, if_neg hB]
                       first
                         | (rw [if_pos (by omega)]; rfl)
                         | (rw [if_neg (by omega)]; rfl))
            · try simp only [Bool.and_eq_true, Bool.or_eq_true, Bool.or_eq_false_iff, Bool.and_eq_false_iff, Bool.not_eq_true', Bool.not_eq_false', decide_eq_true_eq, decide_eq_false_iff_not, Decidable.not_not] at h5
              refine region ?_
              refine cons (opv (Ev.fieldAddr (o := 34) (.t rfl) (by kernel_rfl)) ?_)
              refine cons (opv (Ev.load (xv := h.proto) ty5 (.t rfl) (ptsVar (by repeat first | exact mH | apply mT | apply mA) SHeader.l_proto)) ?_)
              refine cons (opv (Ev.neq_u8 (.t rfl) (.c (v := U8 6) rfl)) ?_)
              refine cons (opv (Ev.move (.t rfl)) ?_)
              refine cons (opg rfl rfl (Ev.fieldAddr (o := 40) (.t rfl) (by kernel_rfl)) ?_)
              refine cons (opg rfl rfl (Ev.load (xv := h.flags) ty5 (.g rfl id) (ptsVar (by repeat first | exact mH | apply mT | apply mA) SHeader.l_flags)) ?_)
              refine cons (opg rfl rfl (Ev.neq_u8 (.g rfl id) (.c (v := U8 0) rfl)) ?_)
              refine cons (opg rfl rfl (Ev.move (.g rfl id)) ?_)
              refine cons (opg rfl rfl (Ev.fieldAddr (o := 41) (.t rfl) (by kernel_rfl)) ?_)
              refine cons (opg rfl rfl (Ev.load (xv := h.seq) ty26 (.g rfl id) (ptsVar (by repeat first | exact mH | apply mT | apply mA) SHeader.l_seq)) ?_)
              refine cons (opg rfl rfl (Ev.neq_u32 (.g rfl id) (.c (v := U32 0) rfl)) ?_)
              refine cons (opg rfl rfl (Ev.pickO (.g rfl id) (.c (v := .bool true) rfl) (fun {_} h => by cases h; rfl) ⟨_, rfl⟩ (by intro h1 h; first | (rw [h] <;> rfl) | (rw [h1, h] <;> rfl) | (rw [h, h1] <;> rfl) | simp_all)) ?_)
              refine cons (opv (Ev.pickA (.t rfl) (fun {_} h => by cases h; rfl) ⟨_, rfl⟩ (by intro h1 h; first | (rw [h] <;> rfl) | (rw [h1, h] <;> rfl) | (rw [h, h1] <;> rfl) | simp_all) (.c (v := .bool false) rfl)) ?_)
              refine cons (opv (Ev.assign (.t rfl)) ?_)
              refine nil ?_
              refine pN ?_
              first | refine condD rfl (fun h6 => ?_) (fun h6 => ?_) | refine cond rfl (fun h6 => ?_) (fun h6 => ?_)
              · try simp only [Bool.and_eq_true, Bool.or_eq_true, Bool.or_eq_false_iff, Bool.and_eq_false_iff, Bool.not_eq_true', Bool.not_eq_false', decide_eq_true_eq, decide_eq_false_iff_not, Decidable.not_not] at h6
                refine seq ?_
                refine region ?_
                refine cons (opv (Ev.assign (.c (v := I 2) rfl)) ?_)
                refine nil ?_
                refine pN ?_
                refine ret ?_
                refine bR ?_
                refine pR ?_
                refine done rfl (.tmp rfl .nil) (retE ?_)
                unfold checkH
                first
                  | (simp_all; done)
                  | (have hA : ¬ (checkA h.src ≠ 0 ∨ checkA h.dst ≠ 0 ∨ h.src.v6 ≠ h.dst.v6 ∨ (bif h.src.v6 then 1048575 else 65535) < h.id) := by simp_all
                     rw [if_neg hA]
                     simp_all; done)
              · try simp only [Bool.and_eq_true, Bool.or_eq_true, Bool.or_eq_false_iff, Bool.and_eq_false_iff, Bool.not_eq_true', Bool.not_eq_false', decide_eq_true_eq, decide_eq_false_iff_not, Decidable.not_not] at h6
                refine seq ?_
                refine draw' (by kernel_rfl) ?_
                refine take 0 rfl (by kernel_rfl) (by kernel_rfl) (by kernel_rfl) (by repeat first | exact sR | exact sN | apply sC | apply sS | apply sA) (Ev.load (xv := h) ty29 (.t rfl) (ptsVar (by repeat first | exact mH | apply mT | apply mA) (Lens.id _))) ?_
                refine take 2 rfl (by kernel_rfl) (by kernel_rfl) (by kernel_rfl) (by repeat first | exact sR | exact sN | apply sC | apply sS | apply sA) (Ev.move (.t rfl)) ?_
                refine take 4 rfl (by kernel_rfl) (by kernel_rfl) (by kernel_rfl) (by repeat first | exact sR | exact sN | apply sC | apply sS | apply sA) (Ev.fieldAddr (o := 42) (.t rfl) (by kernel_rfl)) ?_
                refine take 5 rfl (by kernel_rfl) (by kernel_rfl) (by kernel_rfl) (by repeat first | exact sR | exact sN | apply sC | apply sS | apply sA) (Ev.load (xv := h.data) ty27 (.t rfl) (ptsVar (by repeat first | exact mH | apply mT | apply mA) SHeader.l_data)) ?_
                refine take 6 rfl (by kernel_rfl) (by kernel_rfl) (by kernel_rfl) (by repeat first | exact sR | exact sN | apply sC | apply sS | apply sA) (Ev.len Try.underlying27 (.t rfl) (fun w I => hd.keep0 I.keeps)) ?_
                refine all [1] (by kernel_rfl) (by decide) (.cons rfl ?_ .nil)
                refine (callv en40 (.cons (.t rfl) .nil) (fun w I => front_ok _ w) ?_)
                refine heldN_of (by repeat first | exact sR | exact sN | apply sC | apply sS | apply sA) ?_
                refine take 3 rfl (by kernel_rfl) (by kernel_rfl) (by kernel_rfl) (by repeat first | exact sR | exact sN | apply sC | apply sS | apply sA) (Ev.add_i (.t rfl) (.t rfl) (fun _ => by omega)) ?_
                refine take 7 rfl (by kernel_rfl) (by kernel_rfl) (by kernel_rfl) (by repeat first | exact sR | exact sN | apply sC | apply sS | apply sA) (Ev.add_i (.t rfl) (.t rfl) (fun _ => by omega)) ?_
                refine take 8 rfl (by kernel_rfl) (by kernel_rfl) (by kernel_rfl) (by repeat first | exact sR | exact sN | apply sC | apply sS | apply sA) (Ev.gtr_i (.t rfl) (.c (v := I 2048) rfl)) ?_
                refine take 9 rfl (by kernel_rfl) (by kernel_rfl) (by kernel_rfl) (by repeat first | exact sR | exact sN | apply sC | apply sS | apply sA) (Ev.assign (.t rfl)) ?_
                refine over (by kernel_rfl) ?_
                refine pN ?_
                first | refine condD rfl (fun h7 => ?_) (fun h7 => ?_) | refine cond rfl (fun h7 => ?_) (fun h7 => ?_)
                · try simp only [Bool.and_eq_true, Bool.or_eq_true, Bool.or_eq_false_iff, Bool.and_eq_false_iff, Bool.not_eq_true', Bool.not_eq_false', decide_eq_true_eq, decide_eq_false_iff_not, Decidable.not_not] at h7
                  refine seq ?_
                  refine region ?_
                  refine cons (opv (Ev.assign (.c (v := I 4) rfl)) ?_)
                  refine nil ?_
                  refine pN ?_
                  refine ret ?_
                  refine bR ?_
                  refine pR ?_
                  refine done rfl (.tmp rfl .nil) (retE ?_)
                  first
                    | (exfalso; simp_all; done)
                    | (have hA : ¬ (checkA h.src ≠ 0 ∨ checkA h.dst ≠ 0 ∨ h.src.v6 ≠ h.dst.v6 ∨ (bif h.src.v6 then 1048575 else 65535) < h.id) := by simp_all
                       have hB : ¬ (midN h.proto = 0 ∧ (h.srcPort ≠ 0 ∨ h.dstPort ≠ 0) ∨ h.proto ≠ 6 ∧ (h.flags ≠ 0 ∨ h.seq ≠ 0)) := by
                         intro hc
                         rcases hc with hc | hc <;> simp_all
                       unfold checkH
                       rw [if_neg hA, if_neg hB]
                       first
                         | (rw [if_pos (by omega)]; rfl)
                         | (rw [if_neg (by omega)]; rfl))
                · try simp only [Bool.and_eq_true, Bool.or_eq_true, Bool.or_eq_false_iff, Bool.and_eq_false_iff, Bool.not_eq_true', Bool.not_eq_false', decide_eq_true_eq, decide_eq_false_iff_not, Decidable.not_not] at h7
                  refine skip ?_
                  refine bN ?_
                  refine pN ?_
                  refine seq ?_
                  refine region ?_
                  refine cons (opv (Ev.assign (.c (v := I 0) rfl)) ?_)
                  refine nil ?_
                  refine pN ?_
                  refine ret ?_
                  refine done rfl (.tmp rfl .nil) (retE ?_)
                  first
                    | (exfalso; simp_all; done)
                    | (have hA : ¬ (checkA h.src ≠ 0 ∨ checkA h.dst ≠ 0 ∨ h.src.v6 ≠ h.dst.v6 ∨ (bif h.src.v6 then 1048575 else 65535) < h.id) := by simp_all
                       have hB : ¬ (midN h.proto = 0 ∧ (h.srcPort ≠ 0 ∨ h.dstPort ≠ 0) ∨ h.proto ≠ 6 ∧ (h.flags ≠ 0 ∨ h.seq ≠ 0)) := by
                         intro hc
                         rcases hc with hc | hc <;> simp_all
                       unfold checkH
                       rw [if_neg hA, if_neg hB]
                       first
                         | (rw [if_pos (by omega)]; rfl)
                         | (rw [if_neg (by omega)]; rfl))
end Go.Proofs.Ytegcihhhighipaa
