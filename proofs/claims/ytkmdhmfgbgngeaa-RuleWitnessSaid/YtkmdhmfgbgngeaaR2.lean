/- rule -/
import Derived.Test.YtkmdhmfgbgngeaaR1
set_option linter.unusedVariables false
set_option linter.unusedSimpArgs false
namespace Go.Proofs.Ytkmdhmfgbgngeaa
open Go Go.Gx

structure SAddr where
  v6 : Bool
  b : (Vector UInt8 16)

def SAddr.to : (Bool × (Vector UInt8 16)) → SAddr := fun x => ⟨x.1, x.2⟩

def SAddr.of : SAddr → (Bool × (Vector UInt8 16)) := fun x => (x.v6, x.b)

def eAddr : Enc SAddr := isoE (prodE bE (arrE 16 u8E)) SAddr.to SAddr.of

def SAddr.l_v6 : Lens eAddr bE 0 := lIso _ SAddr.to SAddr.of (fun _ => rfl) (lFst bE (arrE 16 u8E))

@[simp] theorem SAddr.get_v6 (x : SAddr) : SAddr.l_v6.get x = x.v6 := rfl

@[simp] theorem SAddr.set_v6 (x : SAddr) (y : Bool) : SAddr.l_v6.set x y = { x with v6 := y } := rfl

def SAddr.l_b : Lens eAddr (arrE 16 u8E) 1 := lIso _ SAddr.to SAddr.of (fun _ => rfl) (Lens.comp (lSnd bE (arrE 16 u8E)) (Lens.id (arrE 16 u8E)))

@[simp] theorem SAddr.get_b (x : SAddr) : SAddr.l_b.get x = x.b := rfl

@[simp] theorem SAddr.set_b (x : SAddr) (y : (Vector UInt8 16)) : SAddr.l_b.set x y = { x with b := y } := rfl

structure SPrefix where
  addr : SAddr
  bits : Int

def SPrefix.to : (SAddr × Int) → SPrefix := fun x => ⟨x.1, x.2⟩

def SPrefix.of : SPrefix → (SAddr × Int) := fun x => (x.addr, x.bits)

def ePrefix : Enc SPrefix := isoE (prodE eAddr iE) SPrefix.to SPrefix.of

def SPrefix.l_addr : Lens ePrefix eAddr 0 := lIso _ SPrefix.to SPrefix.of (fun _ => rfl) (lFst eAddr iE)

@[simp] theorem SPrefix.get_addr (x : SPrefix) : SPrefix.l_addr.get x = x.addr := rfl

@[simp] theorem SPrefix.set_addr (x : SPrefix) (y : SAddr) : SPrefix.l_addr.set x y = { x with addr := y } := rfl

def SPrefix.l_bits : Lens ePrefix iE 17 := lIso _ SPrefix.to SPrefix.of (fun _ => rfl) (Lens.comp (lSnd eAddr iE) (Lens.id iE))

@[simp] theorem SPrefix.get_bits (x : SPrefix) : SPrefix.l_bits.get x = x.bits := rfl

@[simp] theorem SPrefix.set_bits (x : SPrefix) (y : Int) : SPrefix.l_bits.set x y = { x with bits := y } := rfl

/-- How many bits an address has. -/
def wd (a : SAddr) : Int := bif a.v6 then 128 else 32
theorem wd_le (a : SAddr) : 32 ≤ wd a ∧ wd a ≤ 128 := by unfold wd; cases a.v6 <;> decide
def mk1 (left : Int) (x : UInt8) : UInt8 := if left ≤ 0 then 0 else if left < 8 then x &&& shl8 255 (8 - left).toNat else x
/-- The first bits; the others 0. -/
def maskV (bits : Int) (b : Vector UInt8 16) : Vector UInt8 16 := Vector.ofFn fun i => mk1 (bits - 8 * (i.val : Int)) b[i]
/-- On the way there. -/
def maskTo (bits : Int) (b : Vector UInt8 16) (k : Int) : Vector UInt8 16 := Vector.ofFn fun i => if (i.val : Int) < k then mk1 (bits - 8 * (i.val : Int)) b[i] else b[i]
theorem maskTo_zero (bits : Int) (b : Vector UInt8 16) : maskTo bits b 0 = b := by
  apply Vector.ext
  intro i hi
  have : ¬ (i : Int) < 0 := by omega
  simp only [maskTo, Vector.getElem_ofFn, if_neg this, Fin.getElem_fin]
theorem maskTo_all (bits : Int) (b : Vector UInt8 16) (k : Int) (h : 16 ≤ k) : maskTo bits b k = maskV bits b := by
  apply Vector.ext
  intro i hi
  have : (i : Int) < k := by omega
  simp [maskTo, maskV, this]
theorem maskTo_step (bits : Int) (b : Vector UInt8 16) (k : Int) (h0 : 0 ≤ k) (h1 : k < 16) (hk : k.toNat < 16) : (maskTo bits b k).set k.toNat (mk1 (bits - 8 * k) b[k.toNat]) hk = maskTo bits b (k + 1) := by
  apply Vector.ext
  intro i hi
  rw [Vector.getElem_set]
  by_cases e : k.toNat = i
  · subst e
    have e2 : ((k.toNat : Nat) : Int) = k := by omega
    have e3 : (k.toNat : Int) < k + 1 := by omega
    simp [maskTo, e2]
    omega
  · rw [if_neg e]
    by_cases e4 : (i : Int) < k
    · have e5 : (i : Int) < k + 1 := by omega
      simp [maskTo, e4, e5]
    · have e5 : ¬ (i : Int) < k + 1 := by omega
      simp [maskTo, e4, e5]
theorem maskTo_skip (bits : Int) (b : Vector UInt8 16) (k : Int) (h0 : 0 ≤ k) (h1 : k < 16) (hk : k.toNat < 16) (h : mk1 (bits - 8 * k) b[k.toNat] = b[k.toNat]) : maskTo bits b k = maskTo bits b (k + 1) := by
  rw [← maskTo_step bits b k h0 h1 hk, h]
  apply Vector.ext
  intro i hi
  rw [Vector.getElem_set]
  split
  · rename_i e
    subst e
    have e2 : ¬ ((k.toNat : Nat) : Int) < k := by omega
    simp only [maskTo, Vector.getElem_ofFn, if_neg e2, Fin.getElem_fin]
  · rfl
theorem maskTo_get (bits : Int) (b : Vector UInt8 16) (k : Int) (h0 : 0 ≤ k) (hk : k.toNat < 16) : (maskTo bits b k)[k.toNat] = b[k.toNat] := by
  have e2 : ¬ ((k.toNat : Nat) : Int) < k := by omega
  simp only [maskTo, Vector.getElem_ofFn, if_neg e2, Fin.getElem_fin]
def checkA (a : SAddr) : Int := if maskV (wd a) a.b = a.b then 0 else 150
def checkP (p : SPrefix) : Int := if p.bits < 0 ∨ wd p.addr < p.bits ∨ maskV p.bits p.addr.b ≠ p.addr.b then 151 else 0
def hasP (p : SPrefix) (a : SAddr) : Bool := decide (checkP p = 0) && decide (checkA a = 0) && decide (a.v6 = p.addr.v6) && decide (p.bits ≤ commonB a.b.toList p.addr.b.toList)
def coversP (p q : SPrefix) : Bool := decide (checkP q = 0) && decide (p.bits ≤ q.bits) && hasP p q.addr

theorem ty4 : TyOK Try.prog 4 bE := TyOK.mk' (by kernel_rfl) (by kernel_rfl)

theorem width_ok (a : SAddr) (w : World) : Calls Try.prog 57 #[eAddr.val a] w (RetV w (I (wd a))) := by
  refine enter0 5 Try.func57 rfl rfl (Nat.le_of_ble_eq_true rfl) ?_
  refine seq ?_
  refine region ?_
  refine cons (box (E := eAddr) (.t rfl) (fun b1 => ?_))
  refine cons (opv (Ev.assign (.c (v := I 0) rfl)) ?_)
  refine nil ?_
  refine pN ?_
  refine seq ?_
  refine seq ?_
  refine region ?_
  refine cons (opv (Ev.fieldAddr (o := 0) (.t rfl) (by kernel_rfl)) ?_)
  refine cons (opv (Ev.load (xv := a.v6) ty4 (.t rfl) (ptsVar (by repeat first | exact mH | apply mT | apply mA) SAddr.l_v6)) ?_)
  refine nil ?_
  refine pN ?_
  first | refine condD rfl (fun h0 => ?_) (fun h0 => ?_) | refine cond rfl (fun h0 => ?_) (fun h0 => ?_)
  · try simp only [Bool.and_eq_true, Bool.or_eq_true, Bool.or_eq_false_iff, Bool.and_eq_false_iff, Bool.not_eq_true', Bool.not_eq_false', decide_eq_true_eq, decide_eq_false_iff_not, Decidable.not_not] at h0
    refine seq ?_
    refine region ?_
    refine cons (opv (Ev.assign (.c (v := I 128) rfl)) ?_)
    refine nil ?_
    refine pN ?_
    refine ret ?_
    refine pR ?_
    refine done rfl (.tmp rfl .nil) (retE ?_)
    simp [wd, h0, tupV]
  · try simp only [Bool.and_eq_true, Bool.or_eq_true, Bool.or_eq_false_iff, Bool.and_eq_false_iff, Bool.not_eq_true', Bool.not_eq_false', decide_eq_true_eq, decide_eq_false_iff_not, Decidable.not_not] at h0
    refine skip ?_
    refine pN ?_
    refine seq ?_
    refine region ?_
    refine cons (opv (Ev.assign (.c (v := I 32) rfl)) ?_)
    refine nil ?_
    refine pN ?_
    refine ret ?_
    refine done rfl (.tmp rfl .nil) (retE ?_)
    simp [wd, h0, tupV]

theorem z27 : (Try.prog.info? 27).bind (·.zero) = some (eAddr.val eAddr.zero) := by kernel_rfl

theorem ty27 : TyOK Try.prog 27 eAddr := TyOK.mk' (by kernel_rfl) (by kernel_rfl)

theorem masked_ok (a : SAddr) (n : Int) (w : World) (hn : 0 ≤ n ∧ n ≤ 128) : Calls Try.prog 58 #[eAddr.val a, I n] w (RetV w (eAddr.val { a with b := maskV n a.b })) := by
  refine enter0 35 Try.func58 rfl rfl (Nat.le_of_ble_eq_true rfl) ?_
  refine seq ?_
  refine region ?_
  refine cons (box (E := eAddr) (.t rfl) (fun b1 => ?_))
  refine cons (alloc z27 (fun b2 => ?_))
  refine nil ?_
  refine pN ?_
  refine seq ?_
  refine seq ?_
  refine region ?_
  refine cons (opv (Ev.move (.c (v := I 0) rfl)) ?_)
  refine nil ?_
  refine pN ?_
  refine block ?_
  refine loop (X := Int × (Vector UInt8 16)) (fun x : Int × (Vector UInt8 16) => (0 ≤ x.1 ∧ x.1 ≤ 16) ∧ (x.2 = maskTo n a.b x.1)) (fun x : Int × (Vector UInt8 16) => [(1, true, I n), (2, true, .pointer (some ⟨b1, 0, none⟩)), (4, true, .pointer (some ⟨b2, 0, none⟩)), (7, true, I x.1)]) (fun x : Int × (Vector UInt8 16) => [Var b2 eAddr eAddr.zero 27, Var b1 eAddr { a with b := x.2 } 27]) (fun x : Int × (Vector UInt8 16) => (16 - x.1).toNat) (0, a.b) ⟨?_, ?_⟩ (by repeat first | exact Sub.nil | refine Sub.cons rfl ?_) (by repeat first | exact List.Sublist.refl _ | apply List.Sublist.cons_cons | apply List.Sublist.cons) (fun x hx => ?_)
  · omega
  · exact (maskTo_zero n a.b).symm
  obtain ⟨k, v⟩ := x
  obtain ⟨hk, hv⟩ : (0 ≤ k ∧ k ≤ 16) ∧ (v = maskTo n a.b k) := hx
  show Sat _ _ [(1, true, I n), (2, true, .pointer (some ⟨b1, 0, none⟩)), (4, true, .pointer (some ⟨b2, 0, none⟩)), (7, true, I k)] [Var b2 eAddr eAddr.zero 27, Var b1 eAddr { a with b := v } 27]
  refine seq ?_
  refine region ?_
  refine cons (opv (Ev.lss_i (.t rfl) (.c (v := I 16) rfl)) ?_)
  refine nil ?_
  refine pN ?_
  refine seq ?_
  first | refine condD rfl (fun hlt => ?_) (fun hge => ?_) | refine cond rfl (fun hlt => ?_) (fun hge => ?_)
  · try simp only [Bool.and_eq_true, Bool.or_eq_true, Bool.or_eq_false_iff, Bool.and_eq_false_iff, Bool.not_eq_true', Bool.not_eq_false', decide_eq_true_eq, decide_eq_false_iff_not, Decidable.not_not] at hlt
    refine skip ?_
    refine pN ?_
    refine seq ?_
    refine block ?_
    refine seq ?_
    refine region ?_
    refine cons (opv (Ev.move (.t rfl)) ?_)
    refine cons (opv (Ev.assign (.t rfl)) ?_)
    refine nil ?_
    refine pN ?_
    refine seq ?_
    refine region ?_
    refine cons (opv (Ev.move (.t rfl)) ?_)
    refine cons (opv (Ev.move (.t rfl)) ?_)
    refine cons (opv (Ev.mul_i (.c (v := I 8) rfl) (.t rfl) (fun _ => by omega)) ?_)
    refine cons (opv (Ev.sub_i (.t rfl) (.t rfl) (fun _ => by omega)) ?_)
    refine cons (opv (Ev.assign (.t rfl)) ?_)
    refine nil ?_
    refine pN ?_
    refine block ?_
    refine seq ?_
    refine region ?_
    have hk16 : k.toNat < 16 := by omega
    refine cons (opv (Ev.move (.t rfl)) ?_)
    refine cons (opv (Ev.leq_i (.t rfl) (.c (v := I 0) rfl)) ?_)
    refine cons (opv (Ev.assign (.t rfl)) ?_)
    refine nil ?_
    refine pN ?_
    first | refine condD rfl (fun hz => ?_) (fun hnz => ?_) | refine cond rfl (fun hz => ?_) (fun hnz => ?_)
    · try simp only [Bool.and_eq_true, Bool.or_eq_true, Bool.or_eq_false_iff, Bool.and_eq_false_iff, Bool.not_eq_true', Bool.not_eq_false', decide_eq_true_eq, decide_eq_false_iff_not, Decidable.not_not] at hz
      have hst : v.set k.toNat 0 hk16 = maskTo n a.b (k + 1) := by
        rw [hv, ← maskTo_step n a.b k hk.1 (by omega) hk16]
        congr 1
        unfold mk1
        rw [if_pos hz]
      refine region ?_
      refine cons (opv (Ev.move (.t rfl)) ?_)
      refine cons (opv (Ev.fieldAddr (o := 1) (.t rfl) (by kernel_rfl)) ?_)
      refine cons (opv (Ev.indexAddrA Try.underlying25 ty5 (.t rfl) (.t rfl) (fun _ => by omega)) ?_)
      refine cons (storeV ty5 (Lens.comp SAddr.l_b (lArr (n := 16) u8E _ (by omega))) (.t rfl) (.c (v := U8 0) rfl) (by repeat first | exact Upd.head | apply Upd.tail | apply Upd.right) ?_)
      refine nil ?_
      refine bN ?_
      refine bN ?_
      refine pN ?_
      refine region ?_
      refine cons (opv (Ev.add_i (.t rfl) (.c (v := I 1) rfl) (fun _ => by omega)) ?_)
      refine cons (opv (Ev.move (.t rfl)) ?_)
      refine nil ?_
      refine pN ?_
      refine next (X := Int × (Vector UInt8 16)) (k + 1, _) ⟨?_, ?_⟩ ?_ (by repeat first | exact Sub.nil | refine Sub.cons rfl ?_) (by repeat first | exact sR | exact sN | apply sC | apply sS | apply sA)
      · try dsimp only
        omega
      · try dsimp only
        exact hst
      · try dsimp only
        omega
    · try simp only [Bool.and_eq_true, Bool.or_eq_true, Bool.or_eq_false_iff, Bool.and_eq_false_iff, Bool.not_eq_true', Bool.not_eq_false', decide_eq_true_eq, decide_eq_false_iff_not, Decidable.not_not] at hnz
      refine seq ?_
      refine region ?_
      refine cons (opv (Ev.move (.t rfl)) ?_)
      refine cons (opv (Ev.lss_i (.t rfl) (.c (v := I 8) rfl)) ?_)
      refine cons (opv (Ev.assign (.t rfl)) ?_)
      refine nil ?_
      refine pN ?_
      first | refine condD rfl (fun h8 => ?_) (fun hn8 => ?_) | refine cond rfl (fun h8 => ?_) (fun hn8 => ?_)
      · try simp only [Bool.and_eq_true, Bool.or_eq_true, Bool.or_eq_false_iff, Bool.and_eq_false_iff, Bool.not_eq_true', Bool.not_eq_false', decide_eq_true_eq, decide_eq_false_iff_not, Decidable.not_not] at h8
        have hst : v.set k.toNat (v[k.toNat] &&& shl8 255 (8 - (n - 8 * k)).toNat) hk16 = maskTo n a.b (k + 1) := by
          rw [← maskTo_step n a.b k hk.1 (by omega) hk16, ← hv]
          congr 1
          unfold mk1
          rw [if_neg hnz, if_pos h8, hv, maskTo_get n a.b k hk.1 hk16]
        refine drawS 2 rfl (by repeat first | exact Rem.head | apply Rem.tail) (by kernel_rfl) ?_
        refine take 0 rfl (by kernel_rfl) (by kernel_rfl) (by kernel_rfl) (by repeat first | exact sR | exact sN | apply sC | apply sS | apply sA) (Ev.move (.t rfl)) ?_
        refine take 1 rfl (by kernel_rfl) (by kernel_rfl) (by kernel_rfl) (by repeat first | exact sR | exact sN | apply sC | apply sS | apply sA) (Ev.fieldAddr (o := 1) (.t rfl) (by kernel_rfl)) ?_
        refine take 2 rfl (by kernel_rfl) (by kernel_rfl) (by kernel_rfl) (by repeat first | exact sR | exact sN | apply sC | apply sS | apply sA) (Ev.indexAddrA Try.underlying25 ty5 (.t rfl) (.t rfl) (fun _ => by omega)) ?_
        refine take 4 rfl (by kernel_rfl) (by kernel_rfl) (by kernel_rfl) (by repeat first | exact sR | exact sN | apply sC | apply sS | apply sA) (Ev.move (.t rfl)) ?_
        refine take 5 rfl (by kernel_rfl) (by kernel_rfl) (by kernel_rfl) (by repeat first | exact sR | exact sN | apply sC | apply sS | apply sA) (Ev.sub_i (.c (v := I 8) rfl) (.t rfl) (fun _ => by omega)) ?_
        refine take 6 rfl (by kernel_rfl) (by kernel_rfl) (by kernel_rfl) (by repeat first | exact sR | exact sN | apply sC | apply sS | apply sA) (Ev.shl_u8 (.c (v := U8 255) rfl) (.t rfl) (fun _ => by omega)) ?_
        refine take 8 rfl (by kernel_rfl) (by kernel_rfl) (by kernel_rfl) (by repeat first | exact sR | exact sN | apply sC | apply sS | apply sA) (Ev.fieldAddr (o := 1) (.t rfl) (by kernel_rfl)) ?_
        refine all [3] (by kernel_rfl) (by decide) (.cons rfl ?_ .nil)
        refine (opv (Ev.load ty5 (.t rfl) (ptsVar (by repeat first | exact mH | apply mT | apply mA) (Lens.comp SAddr.l_b (lArr (n := 16) u8E _ (by omega))))) ?_)
        refine heldN_of (by repeat first | exact sR | exact sN | apply sC | apply sS | apply sA) ?_
        refine take 7 rfl (by kernel_rfl) (by kernel_rfl) (by kernel_rfl) (by repeat first | exact sR | exact sN | apply sC | apply sS | apply sA) (Ev.and_u8 (.t rfl) (.t rfl)) ?_
        refine take 9 rfl (by kernel_rfl) (by kernel_rfl) (by kernel_rfl) (by repeat first | exact sR | exact sN | apply sC | apply sS | apply sA) (Ev.indexAddrA Try.underlying25 ty5 (.t rfl) (.t rfl) (fun _ => by omega)) ?_
        refine all [10] (by kernel_rfl) (by decide) (.cons rfl ?_ .nil)
        refine (storeV ty5 (Lens.comp SAddr.l_b (lArr (n := 16) u8E _ (by omega))) (.t rfl) (.t rfl) (by repeat first | exact Upd.head | apply Upd.tail | apply Upd.right) ?_)
        refine heldN_of (by repeat first | exact sR | exact sN | apply sC | apply sS | apply sA) ?_
        refine over (by kernel_rfl) ?_
        refine bN ?_
        refine bN ?_
        refine pN ?_
        refine region ?_
        refine cons (opv (Ev.add_i (.t rfl) (.c (v := I 1) rfl) (fun _ => by omega)) ?_)
        refine cons (opv (Ev.move (.t rfl)) ?_)
        refine nil ?_
        refine pN ?_
        refine next (X := Int × (Vector UInt8 16)) (k + 1, _) ⟨?_, ?_⟩ ?_ (by repeat first | exact Sub.nil | refine Sub.cons rfl ?_) (by repeat first | exact sR | exact sN | apply sC | apply sS | apply sA)
        · try dsimp only
          omega
        · try dsimp only
          exact hst
        · try dsimp only
          omega
      · try simp only [Bool.and_eq_true, Bool.or_eq_true, Bool.or_eq_false_iff, Bool.and_eq_false_iff, Bool.not_eq_true', Bool.not_eq_false', decide_eq_true_eq, decide_eq_false_iff_not, Decidable.not_not] at hn8
        have hst : v = maskTo n a.b (k + 1) := by
          rw [hv]
          exact maskTo_skip n a.b k hk.1 (by omega) hk16 (by unfold mk1; rw [if_neg hnz, if_neg hn8])
        refine skip ?_
        refine bN ?_
        refine bN ?_
        refine pN ?_
        refine region ?_
        refine cons (opv (Ev.add_i (.t rfl) (.c (v := I 1) rfl) (fun _ => by omega)) ?_)
        refine cons (opv (Ev.move (.t rfl)) ?_)
        refine nil ?_
        refine pN ?_
        refine next (X := Int × (Vector UInt8 16)) (k + 1, _) ⟨?_, ?_⟩ ?_ (by repeat first | exact Sub.nil | refine Sub.cons rfl ?_) (by repeat first | exact sR | exact sN | apply sC | apply sS | apply sA)
        · try dsimp only
          omega
        · try dsimp only
          exact hst
        · try dsimp only
          omega
  · try simp only [Bool.and_eq_true, Bool.or_eq_true, Bool.or_eq_false_iff, Bool.and_eq_false_iff, Bool.not_eq_true', Bool.not_eq_false', decide_eq_true_eq, decide_eq_false_iff_not, Decidable.not_not] at hge
    refine exit ?_
    refine pX ?_
    refine pX ?_
    refine bX ?_
    refine pN ?_
    refine seq ?_
    refine region ?_
    refine cons (opv (Ev.load ty27 (.t rfl) (ptsVar (by repeat first | exact mH | apply mT | apply mA) (Lens.id _))) ?_)
    refine cons (storeV ty27 (Lens.id _) (.t rfl) (.t rfl) (by repeat first | exact Upd.head | apply Upd.tail | apply Upd.right) ?_)
    refine nil ?_
    refine pN ?_
    refine ret ?_
    refine done rfl (.cell rfl (fun w I => run_loadVar_pts ty27 (ptsVar (by repeat first | exact mH | apply mT | apply mA) (Lens.id _) w I)) .nil) (retE ?_)
    rw [maskTo_all n a.b k (by omega)] at hv
    rw [← hv]; rfl

theorem ty25 : TyOK Try.prog 25 (arrE 16 u8E) := TyOK.mk' (by kernel_rfl) (by kernel_rfl)

theorem en57 : Enters Try.prog 57 := Enters.mk' (by kernel_rfl)

theorem en58 : Enters Try.prog 58 := Enters.mk' (by kernel_rfl)

theorem checkA_ok (a : SAddr) (w : World) : Calls Try.prog 71 #[eAddr.val a] w (RetV w (I (checkA a))) := by
  have hw := wd_le a
  refine enter0 11 Try.func71 rfl rfl (Nat.le_of_ble_eq_true rfl) ?_
  refine seq ?_
  refine region ?_
  refine cons (box (E := eAddr) (.t rfl) (fun b1 => ?_))
  refine cons (opv (Ev.assign (.c (v := I 0) rfl)) ?_)
  refine nil ?_
  refine pN ?_
  refine seq ?_
  refine seq ?_
  refine draw' (by kernel_rfl) ?_
  refine take 0 rfl (by kernel_rfl) (by kernel_rfl) (by kernel_rfl) (by repeat first | exact sR | exact sN | apply sC | apply sS | apply sA) (Ev.load (xv := a) ty27 (.t rfl) (ptsVar (by repeat first | exact mH | apply mT | apply mA) (Lens.id _))) ?_
  refine take 1 rfl (by kernel_rfl) (by kernel_rfl) (by kernel_rfl) (by repeat first | exact sR | exact sN | apply sC | apply sS | apply sA) (Ev.load (xv := a) ty27 (.t rfl) (ptsVar (by repeat first | exact mH | apply mT | apply mA) (Lens.id _))) ?_
  refine take 5 rfl (by kernel_rfl) (by kernel_rfl) (by kernel_rfl) (by repeat first | exact sR | exact sN | apply sC | apply sS | apply sA) (Ev.fieldAddr (o := 1) (.t rfl) (by kernel_rfl)) ?_
  refine take 6 rfl (by kernel_rfl) (by kernel_rfl) (by kernel_rfl) (by repeat first | exact sR | exact sN | apply sC | apply sS | apply sA) (Ev.load (xv := a.b) ty25 (.t rfl) (ptsVar (by repeat first | exact mH | apply mT | apply mA) SAddr.l_b)) ?_
  refine all [2] (by kernel_rfl) (by decide) (.cons rfl ?_ .nil)
  refine (callv en57 (.cons (.t rfl) .nil) (fun w I => width_ok _ w) ?_)
  refine heldN_of (by repeat first | exact sR | exact sN | apply sC | apply sS | apply sA) ?_
  refine all [3] (by kernel_rfl) (by decide) (.cons rfl ?_ .nil)
  refine (callv en58 (.cons (.t rfl) (.cons (.t rfl) .nil)) (fun w I => masked_ok _ _ w (by first | omega | (simp; omega))) ?_)
  refine heldN_of (by repeat first | exact sR | exact sN | apply sC | apply sS | apply sA) ?_
  refine take 4 rfl (by kernel_rfl) (by kernel_rfl) (by kernel_rfl) (by repeat first | exact sR | exact sN | apply sC | apply sS | apply sA) (Ev.fieldS (o := 1) (e := 25) rfl (by kernel_rfl) ty25 SAddr.l_b (.t rfl)) ?_
  refine take 7 rfl (by kernel_rfl) (by kernel_rfl) (by kernel_rfl) (by repeat first | exact sR | exact sN | apply sC | apply sS | apply sA) (Ev.neqS rfl (eqok_arr Try.underlying25 ty5 (eqok_u8 Try.underlying5)) rfl (by kernel_rfl) (.t rfl) (.t rfl)) ?_
  refine over (by kernel_rfl) ?_
  refine pN ?_
  first | refine condD rfl (fun h0 => ?_) (fun h0 => ?_) | refine cond rfl (fun h0 => ?_) (fun h0 => ?_)
  · try simp only [Bool.and_eq_true, Bool.or_eq_true, Bool.or_eq_false_iff, Bool.and_eq_false_iff, Bool.not_eq_true', Bool.not_eq_false', decide_eq_true_eq, decide_eq_false_iff_not, Decidable.not_not] at h0
    refine seq ?_
    refine region ?_
    refine cons (opv (Ev.assign (.c (v := I 150) rfl)) ?_)
    refine nil ?_
    refine pN ?_
    refine ret ?_
    refine pR ?_
    refine done rfl (.tmp rfl .nil) (retE ?_)
    have hne : maskV (wd a) a.b ≠ a.b := by simpa using h0
    unfold checkA; rw [if_neg hne]; rfl
  · try simp only [Bool.and_eq_true, Bool.or_eq_true, Bool.or_eq_false_iff, Bool.and_eq_false_iff, Bool.not_eq_true', Bool.not_eq_false', decide_eq_true_eq, decide_eq_false_iff_not, Decidable.not_not] at h0
    refine skip ?_
    refine pN ?_
    refine seq ?_
    refine region ?_
    refine cons (opv (Ev.assign (.c (v := I 0) rfl)) ?_)
    refine nil ?_
    refine pN ?_
    refine ret ?_
    refine done rfl (.tmp rfl .nil) (retE ?_)
    have he : maskV (wd a) a.b = a.b := by simpa using h0
    unfold checkA; rw [if_pos he]; rfl

theorem ty3 : TyOK Try.prog 3 iE := TyOK.mk' (by kernel_rfl) (by kernel_rfl)

theorem checkP_ok (p : SPrefix) (w : World) : Calls Try.prog 35 #[ePrefix.val p] w (RetV w (I (checkP p))) := by
  have hw := wd_le p.addr
  refine enter0 26 Try.func35 rfl rfl (Nat.le_of_ble_eq_true rfl) ?_
  refine seq ?_
  refine region ?_
  refine cons (box (E := ePrefix) (.t rfl) (fun b1 => ?_))
  refine cons (opv (Ev.assign (.c (v := I 0) rfl)) ?_)
  refine nil ?_
  refine pN ?_
  refine seq ?_
  refine seq ?_
  refine draw' (by kernel_rfl) ?_
  refine take 0 rfl (by kernel_rfl) (by kernel_rfl) (by kernel_rfl) (by repeat first | exact sR | exact sN | apply sC | apply sS | apply sA) (Ev.fieldAddr (o := 17) (.t rfl) (by kernel_rfl)) ?_
  refine take 1 rfl (by kernel_rfl) (by kernel_rfl) (by kernel_rfl) (by repeat first | exact sR | exact sN | apply sC | apply sS | apply sA) (Ev.load (xv := p.bits) ty3 (.t rfl) (ptsVar (by repeat first | exact mH | apply mT | apply mA) SPrefix.l_bits)) ?_
  refine take 2 rfl (by kernel_rfl) (by kernel_rfl) (by kernel_rfl) (by repeat first | exact sR | exact sN | apply sC | apply sS | apply sA) (Ev.lss_i (.t rfl) (.c (v := I 0) rfl)) ?_
  refine take 3 rfl (by kernel_rfl) (by kernel_rfl) (by kernel_rfl) (by repeat first | exact sR | exact sN | apply sC | apply sS | apply sA) (Ev.move (.t rfl)) ?_
  refine takeg 4 rfl (by kernel_rfl) (by kernel_rfl) (by kernel_rfl) (by repeat first | exact sR | exact sN | apply sC | apply sS | apply sA) rfl rfl (Ev.fieldAddr (o := 17) (.t rfl) (by kernel_rfl)) ?_
  refine takeg 5 rfl (by kernel_rfl) (by kernel_rfl) (by kernel_rfl) (by repeat first | exact sR | exact sN | apply sC | apply sS | apply sA) rfl rfl (Ev.load (xv := p.bits) ty3 (.g rfl id) (ptsVar (by repeat first | exact mH | apply mT | apply mA) SPrefix.l_bits)) ?_
  refine takeg 6 rfl (by kernel_rfl) (by kernel_rfl) (by kernel_rfl) (by repeat first | exact sR | exact sN | apply sC | apply sS | apply sA) rfl rfl (Ev.fieldAddr (o := 0) (.t rfl) (by kernel_rfl)) ?_
  refine takeg 7 rfl (by kernel_rfl) (by kernel_rfl) (by kernel_rfl) (by repeat first | exact sR | exact sN | apply sC | apply sS | apply sA) rfl rfl (Ev.load (xv := p.addr) ty27 (.g rfl id) (ptsVar (by repeat first | exact mH | apply mT | apply mA) SPrefix.l_addr)) ?_
  refine all [8] (by kernel_rfl) (by decide) (.cons rfl ?_ .nil)
  refine (callg rfl rfl en57 (.cons (.g rfl id) .nil) (fun hg w I => width_ok _ w) ?_)
  refine heldN_of (by repeat first | exact sR | exact sN | apply sC | apply sS | apply sA) ?_
  refine takeg 9 rfl (by kernel_rfl) (by kernel_rfl) (by kernel_rfl) (by repeat first | exact sR | exact sN | apply sC | apply sS | apply sA) rfl rfl (Ev.gtr_i (.g rfl id) (.g rfl id)) ?_
  refine take 10 rfl (by kernel_rfl) (by kernel_rfl) (by kernel_rfl) (by repeat first | exact sR | exact sN | apply sC | apply sS | apply sA) (Ev.pickO (.t rfl) (.c (v := .bool true) rfl) (fun {_} h => by cases h; rfl) ⟨_, rfl⟩ (by intro h1 h; first | (rw [h] <;> rfl) | (rw [h1, h] <;> rfl) | (rw [h, h1] <;> rfl) | simp_all)) ?_
  refine take 11 rfl (by kernel_rfl) (by kernel_rfl) (by kernel_rfl) (by repeat first | exact sR | exact sN | apply sC | apply sS | apply sA) (Ev.move (.t rfl)) ?_
  refine takeg 12 rfl (by kernel_rfl) (by kernel_rfl) (by kernel_rfl) (by repeat first | exact sR | exact sN | apply sC | apply sS | apply sA) rfl rfl (Ev.fieldAddr (o := 0) (.t rfl) (by kernel_rfl)) ?_
  refine takeg 13 rfl (by kernel_rfl) (by kernel_rfl) (by kernel_rfl) (by repeat first | exact sR | exact sN | apply sC | apply sS | apply sA) rfl rfl (Ev.load (xv := p.addr) ty27 (.g rfl id) (ptsVar (by repeat first | exact mH | apply mT | apply mA) SPrefix.l_addr)) ?_
  refine takeg 14 rfl (by kernel_rfl) (by kernel_rfl) (by kernel_rfl) (by repeat first | exact sR | exact sN | apply sC | apply sS | apply sA) rfl rfl (Ev.fieldAddr (o := 17) (.t rfl) (by kernel_rfl)) ?_
  refine takeg 15 rfl (by kernel_rfl) (by kernel_rfl) (by kernel_rfl) (by repeat first | exact sR | exact sN | apply sC | apply sS | apply sA) rfl rfl (Ev.load (xv := p.bits) ty3 (.g rfl id) (ptsVar (by repeat first | exact mH | apply mT | apply mA) SPrefix.l_bits)) ?_
  refine takeg 18 rfl (by kernel_rfl) (by kernel_rfl) (by kernel_rfl) (by repeat first | exact sR | exact sN | apply sC | apply sS | apply sA) rfl rfl (Ev.fieldAddr (o := 0) (.t rfl) (by kernel_rfl)) ?_
  refine takeg 19 rfl (by kernel_rfl) (by kernel_rfl) (by kernel_rfl) (by repeat first | exact sR | exact sN | apply sC | apply sS | apply sA) rfl rfl (Ev.fieldAddr (o := 1) (.g rfl id) (by kernel_rfl)) ?_
  refine takeg 20 rfl (by kernel_rfl) (by kernel_rfl) (by kernel_rfl) (by repeat first | exact sR | exact sN | apply sC | apply sS | apply sA) rfl rfl (Ev.load (xv := p.addr.b) ty25 (.g rfl id) (ptsVar (by repeat first | exact mH | apply mT | apply mA) (Lens.comp SPrefix.l_addr SAddr.l_b))) ?_
  refine all [16] (by kernel_rfl) (by decide) (.cons rfl ?_ .nil)
  refine (callg rfl rfl en58 (.cons (.g rfl id) (.cons (.g rfl id) .nil)) (fun hg w I => masked_ok _ _ w (by simp at hg ⊢; omega)) ?_)
  refine heldN_of (by repeat first | exact sR | exact sN | apply sC | apply sS | apply sA) ?_
  refine takeg 17 rfl (by kernel_rfl) (by kernel_rfl) (by kernel_rfl) (by repeat first | exact sR | exact sN | apply sC | apply sS | apply sA) rfl rfl (Ev.fieldS (o := 1) (e := 25) rfl (by kernel_rfl) ty25 SAddr.l_b (.g rfl id)) ?_
  refine takeg 21 rfl (by kernel_rfl) (by kernel_rfl) (by kernel_rfl) (by repeat first | exact sR | exact sN | apply sC | apply sS | apply sA) rfl rfl (Ev.neqS rfl (eqok_arr Try.underlying25 ty5 (eqok_u8 Try.underlying5)) rfl (by kernel_rfl) (.g rfl id) (.g rfl id)) ?_
  refine take 22 rfl (by kernel_rfl) (by kernel_rfl) (by kernel_rfl) (by repeat first | exact sR | exact sN | apply sC | apply sS | apply sA) (Ev.pickO (.t rfl) (.c (v := .bool true) rfl) (fun {_} h => by cases h; rfl) ⟨_, rfl⟩ (by intro h1 h; first | (rw [h] <;> rfl) | (rw [h1, h] <;> rfl) | (rw [h, h1] <;> rfl) | simp_all)) ?_
  refine over (by kernel_rfl) ?_
  refine pN ?_
  first | refine condD rfl (fun h0 => ?_) (fun h0 => ?_) | refine cond rfl (fun h0 => ?_) (fun h0 => ?_)
  · refine seq ?_
    refine region ?_
    refine cons (opv (Ev.assign (.c (v := I 151) rfl)) ?_)
    refine nil ?_
    refine pN ?_
    refine ret ?_
    refine pR ?_
    refine done rfl (.tmp rfl .nil) (retE ?_)
    unfold checkP; rw [if_pos (by simpa [and_assoc, or_assoc] using h0)]; rfl
  · refine skip ?_
    refine pN ?_
    refine seq ?_
    refine region ?_
    refine cons (opv (Ev.assign (.c (v := I 0) rfl)) ?_)
    refine nil ?_
    refine pN ?_
    refine ret ?_
    refine done rfl (.tmp rfl .nil) (retE ?_)
    unfold checkP; rw [if_neg (by simpa [and_assoc, or_assoc] using h0)]; rfl

theorem ty29 : TyOK Try.prog 29 ePrefix := TyOK.mk' (by kernel_rfl) (by kernel_rfl)

theorem en35 : Enters Try.prog 35 := Enters.mk' (by kernel_rfl)

theorem en71 : Enters Try.prog 71 := Enters.mk' (by kernel_rfl)

theorem en72 : Enters Try.prog 72 := Enters.mk' (by kernel_rfl)

theorem hasP_ok (p : SPrefix) (a : SAddr) (w : World) : Calls Try.prog 63 #[ePrefix.val p, eAddr.val a] w (RetV w (.bool (hasP p a))) := by
  refine enter0 32 Try.func63 rfl rfl (Nat.le_of_ble_eq_true rfl) ?_
  refine seq ?_
  refine region ?_
  refine cons (box (E := ePrefix) (.t rfl) (fun b1 => ?_))
  refine cons (box (E := eAddr) (.t rfl) (fun b2 => ?_))
  refine cons (opv (Ev.assign (.c (v := .bool false) rfl)) ?_)
  refine nil ?_
  refine pN ?_
  refine seq ?_
  refine draw' (by kernel_rfl) ?_
  refine take 0 rfl (by kernel_rfl) (by kernel_rfl) (by kernel_rfl) (by repeat first | exact sR | exact sN | apply sC | apply sS | apply sA) (Ev.load (xv := p) ty29 (.t rfl) (ptsVar (by repeat first | exact mH | apply mT | apply mA) (Lens.id _))) ?_
  refine all [1] (by kernel_rfl) (by decide) (.cons rfl ?_ .nil)
  refine (callv en35 (.cons (.t rfl) .nil) (fun w I => checkP_ok _ w) ?_)
  refine heldN_of (by repeat first | exact sR | exact sN | apply sC | apply sS | apply sA) ?_
  refine take 2 rfl (by kernel_rfl) (by kernel_rfl) (by kernel_rfl) (by repeat first | exact sR | exact sN | apply sC | apply sS | apply sA) (Ev.eql_i (.t rfl) (.c (v := I 0) rfl)) ?_
  refine take 3 rfl (by kernel_rfl) (by kernel_rfl) (by kernel_rfl) (by repeat first | exact sR | exact sN | apply sC | apply sS | apply sA) (Ev.move (.t rfl)) ?_
  refine takeg 4 rfl (by kernel_rfl) (by kernel_rfl) (by kernel_rfl) (by repeat first | exact sR | exact sN | apply sC | apply sS | apply sA) rfl rfl (Ev.load (xv := a) ty27 (.t rfl) (ptsVar (by repeat first | exact mH | apply mT | apply mA) (Lens.id _))) ?_
  refine all [5] (by kernel_rfl) (by decide) (.cons rfl ?_ .nil)
  refine (callg rfl rfl en71 (.cons (.g rfl id) .nil) (fun hg w I => checkA_ok _ w) ?_)
  refine heldN_of (by repeat first | exact sR | exact sN | apply sC | apply sS | apply sA) ?_
  refine takeg 6 rfl (by kernel_rfl) (by kernel_rfl) (by kernel_rfl) (by repeat first | exact sR | exact sN | apply sC | apply sS | apply sA) rfl rfl (Ev.eql_i (.g rfl id) (.c (v := I 0) rfl)) ?_
  refine take 7 rfl (by kernel_rfl) (by kernel_rfl) (by kernel_rfl) (by repeat first | exact sR | exact sN | apply sC | apply sS | apply sA) (Ev.pickA (.t rfl) (fun {_} h => by cases h; rfl) ⟨_, rfl⟩ (by intro h1 h; first | (rw [h] <;> rfl) | (rw [h1, h] <;> rfl) | (rw [h, h1] <;> rfl) | simp_all) (.c (v := .bool false) rfl)) ?_
  refine take 8 rfl (by kernel_rfl) (by kernel_rfl) (by kernel_rfl) (by repeat first | exact sR | exact sN | apply sC | apply sS | apply sA) (Ev.move (.t rfl)) ?_
  refine takeg 9 rfl (by kernel_rfl) (by kernel_rfl) (by kernel_rfl) (by repeat first | exact sR | exact sN | apply sC | apply sS | apply sA) rfl rfl (Ev.fieldAddr (o := 0) (.t rfl) (by kernel_rfl)) ?_
  refine takeg 10 rfl (by kernel_rfl) (by kernel_rfl) (by kernel_rfl) (by repeat first | exact sR | exact sN | apply sC | apply sS | apply sA) rfl rfl (Ev.load (xv := a.v6) ty4 (.g rfl id) (ptsVar (by repeat first | exact mH | apply mT | apply mA) SAddr.l_v6)) ?_
  refine takeg 11 rfl (by kernel_rfl) (by kernel_rfl) (by kernel_rfl) (by repeat first | exact sR | exact sN | apply sC | apply sS | apply sA) rfl rfl (Ev.fieldAddr (o := 0) (.t rfl) (by kernel_rfl)) ?_
  refine takeg 12 rfl (by kernel_rfl) (by kernel_rfl) (by kernel_rfl) (by repeat first | exact sR | exact sN | apply sC | apply sS | apply sA) rfl rfl (Ev.fieldAddr (o := 0) (.g rfl id) (by kernel_rfl)) ?_
  refine takeg 13 rfl (by kernel_rfl) (by kernel_rfl) (by kernel_rfl) (by repeat first | exact sR | exact sN | apply sC | apply sS | apply sA) rfl rfl (Ev.load (xv := p.addr.v6) ty4 (.g rfl id) (ptsVar (by repeat first | exact mH | apply mT | apply mA) (Lens.comp SPrefix.l_addr SAddr.l_v6))) ?_
  refine takeg 14 rfl (by kernel_rfl) (by kernel_rfl) (by kernel_rfl) (by repeat first | exact sR | exact sN | apply sC | apply sS | apply sA) rfl rfl (Ev.eql_b Try.underlying4 (.g rfl id) (.g rfl id)) ?_
  refine take 15 rfl (by kernel_rfl) (by kernel_rfl) (by kernel_rfl) (by repeat first | exact sR | exact sN | apply sC | apply sS | apply sA) (Ev.pickA (.t rfl) (fun {_} h => by cases h; rfl) ⟨_, rfl⟩ (by intro h1 h; first | (rw [h] <;> rfl) | (rw [h1, h] <;> rfl) | (rw [h, h1] <;> rfl) | simp_all) (.c (v := .bool false) rfl)) ?_
  refine take 16 rfl (by kernel_rfl) (by kernel_rfl) (by kernel_rfl) (by repeat first | exact sR | exact sN | apply sC | apply sS | apply sA) (Ev.move (.t rfl)) ?_
  refine takeg 17 rfl (by kernel_rfl) (by kernel_rfl) (by kernel_rfl) (by repeat first | exact sR | exact sN | apply sC | apply sS | apply sA) rfl rfl (Ev.fieldAddr (o := 1) (.t rfl) (by kernel_rfl)) ?_
  refine takeg 18 rfl (by kernel_rfl) (by kernel_rfl) (by kernel_rfl) (by repeat first | exact sR | exact sN | apply sC | apply sS | apply sA) rfl rfl (Ev.sliceArr (l := 0) (h := 16) Try.underlying25 ty5 (.g rfl id) rfl rfl (fun _ => by decide)) ?_
  refine takeg 19 rfl (by kernel_rfl) (by kernel_rfl) (by kernel_rfl) (by repeat first | exact sR | exact sN | apply sC | apply sS | apply sA) rfl rfl (Ev.fieldAddr (o := 0) (.t rfl) (by kernel_rfl)) ?_
  refine takeg 20 rfl (by kernel_rfl) (by kernel_rfl) (by kernel_rfl) (by repeat first | exact sR | exact sN | apply sC | apply sS | apply sA) rfl rfl (Ev.fieldAddr (o := 1) (.g rfl id) (by kernel_rfl)) ?_
  refine takeg 21 rfl (by kernel_rfl) (by kernel_rfl) (by kernel_rfl) (by repeat first | exact sR | exact sN | apply sC | apply sS | apply sA) rfl rfl (Ev.sliceArr (l := 0) (h := 16) Try.underlying25 ty5 (.g rfl id) rfl rfl (fun _ => by decide)) ?_
  refine takeg 23 rfl (by kernel_rfl) (by kernel_rfl) (by kernel_rfl) (by repeat first | exact sR | exact sN | apply sC | apply sS | apply sA) rfl rfl (Ev.fieldAddr (o := 17) (.t rfl) (by kernel_rfl)) ?_
  refine takeg 24 rfl (by kernel_rfl) (by kernel_rfl) (by kernel_rfl) (by repeat first | exact sR | exact sN | apply sC | apply sS | apply sA) rfl rfl (Ev.load (xv := p.bits) ty3 (.g rfl id) (ptsVar (by repeat first | exact mH | apply mT | apply mA) SPrefix.l_bits)) ?_
  refine all [22] (by kernel_rfl) (by decide) (.cons rfl ?_ .nil)
  refine (callg rfl rfl en72 (.cons (.g rfl id) (.cons (.g rfl id) .nil)) (fun hg w I => common_ok _ _ _ _ w (isSl_arr (ptsVar (by repeat first | exact mH | apply mT | apply mA) SAddr.l_b w I) (by decide) (by decide) (by decide)) (isSl_arr (ptsVar (by repeat first | exact mH | apply mT | apply mA) (Lens.comp SPrefix.l_addr SAddr.l_b) w I) (by decide) (by decide) (by decide)) (by first | omega | (simp; done))) ?_)
  refine heldN_of (by repeat first | exact sR | exact sN | apply sC | apply sS | apply sA) ?_
  refine takeg 25 rfl (by kernel_rfl) (by kernel_rfl) (by kernel_rfl) (by repeat first | exact sR | exact sN | apply sC | apply sS | apply sA) rfl rfl (Ev.geq_i (.g rfl id) (.g rfl id)) ?_
  refine take 26 rfl (by kernel_rfl) (by kernel_rfl) (by kernel_rfl) (by repeat first | exact sR | exact sN | apply sC | apply sS | apply sA) (Ev.pickA (.t rfl) (fun {_} h => by cases h; rfl) ⟨_, rfl⟩ (by intro h1 h; first | (rw [h] <;> rfl) | (rw [h1, h] <;> rfl) | (rw [h, h1] <;> rfl) | simp_all) (.c (v := .bool false) rfl)) ?_
  refine take 27 rfl (by kernel_rfl) (by kernel_rfl) (by kernel_rfl) (by repeat first | exact sR | exact sN | apply sC | apply sS | apply sA) (Ev.assign (.t rfl)) ?_
  refine over (by kernel_rfl) ?_
  refine pN ?_
  refine ret ?_
  refine done rfl (.tmp rfl .nil) (retE ?_)
  unfold hasP; simp [tupV, Bool.and_assoc, eqd]

theorem en63 : Enters Try.prog 63 := Enters.mk' (by kernel_rfl)

theorem coversP_ok (p q : SPrefix) (w : World) : Calls Try.prog 47 #[ePrefix.val p, ePrefix.val q] w (RetV w (.bool (coversP p q))) := by
  refine enter0 21 Try.func47 rfl rfl (Nat.le_of_ble_eq_true rfl) ?_
  refine seq ?_
  refine region ?_
  refine cons (box (E := ePrefix) (.t rfl) (fun b1 => ?_))
  refine cons (box (E := ePrefix) (.t rfl) (fun b2 => ?_))
  refine cons (opv (Ev.assign (.c (v := .bool false) rfl)) ?_)
  refine nil ?_
  refine pN ?_
  refine seq ?_
  refine region ?_
  refine cons (opv (Ev.load (xv := q) ty29 (.t rfl) (ptsVar (by repeat first | exact mH | apply mT | apply mA) (Lens.id _))) ?_)
  refine cons (callv en35 (.cons (.t rfl) .nil) (fun w I => checkP_ok _ w) ?_)
  refine cons (opv (Ev.eql_i (.t rfl) (.c (v := I 0) rfl)) ?_)
  refine cons (opv (Ev.move (.t rfl)) ?_)
  refine cons (opg rfl rfl (Ev.fieldAddr (o := 17) (.t rfl) (by kernel_rfl)) ?_)
  refine cons (opg rfl rfl (Ev.load (xv := p.bits) ty3 (.g rfl id) (ptsVar (by repeat first | exact mH | apply mT | apply mA) SPrefix.l_bits)) ?_)
  refine cons (opg rfl rfl (Ev.fieldAddr (o := 17) (.t rfl) (by kernel_rfl)) ?_)
  refine cons (opg rfl rfl (Ev.load (xv := q.bits) ty3 (.g rfl id) (ptsVar (by repeat first | exact mH | apply mT | apply mA) SPrefix.l_bits)) ?_)
  refine cons (opg rfl rfl (Ev.leq_i (.g rfl id) (.g rfl id)) ?_)
  refine cons (opv (Ev.pickA (.t rfl) (fun {_} h => by cases h; rfl) ⟨_, rfl⟩ (by intro h1 h; first | (rw [h] <;> rfl) | (rw [h1, h] <;> rfl) | (rw [h, h1] <;> rfl) | simp_all) (.c (v := .bool false) rfl)) ?_)
  refine cons (opv (Ev.move (.t rfl)) ?_)
  refine cons (opg rfl rfl (Ev.load (xv := p) ty29 (.t rfl) (ptsVar (by repeat first | exact mH | apply mT | apply mA) (Lens.id _))) ?_)
  refine cons (opg rfl rfl (Ev.fieldAddr (o := 0) (.t rfl) (by kernel_rfl)) ?_)
  refine cons (opg rfl rfl (Ev.load (xv := q.addr) ty27 (.g rfl id) (ptsVar (by repeat first | exact mH | apply mT | apply mA) SPrefix.l_addr)) ?_)
  refine cons (callg rfl rfl en63 (.cons (.g rfl id) (.cons (.g rfl id) .nil)) (fun hg w I => hasP_ok _ _ w) ?_)
  refine cons (opv (Ev.pickA (.t rfl) (fun {_} h => by cases h; rfl) ⟨_, rfl⟩ (by intro h1 h; first | (rw [h] <;> rfl) | (rw [h1, h] <;> rfl) | (rw [h, h1] <;> rfl) | simp_all) (.c (v := .bool false) rfl)) ?_)
  refine cons (opv (Ev.assign (.t rfl)) ?_)
  refine nil ?_
  refine pN ?_
  refine ret ?_
  refine done rfl (.tmp rfl .nil) (retE ?_)
  unfold coversP; simp [tupV, Bool.and_assoc]; done
end Go.Proofs.Ytkmdhmfgbgngeaa
