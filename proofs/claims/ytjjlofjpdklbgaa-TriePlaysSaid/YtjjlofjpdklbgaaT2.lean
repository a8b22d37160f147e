/- trie -/
import Derived.Test.YtjjlofjpdklbgaaT1
set_option linter.unusedVariables false
set_option linter.unusedSimpArgs false
namespace Go.Proofs.Ytjjlofjpdklbgaa
open Go Go.Gx

structure SAddr where
  v6 : Bool
  b : (Vector UInt8 16)

def SAddr.to : (Bool × (Vector UInt8 16)) → SAddr := fun x => ⟨x.1, x.2⟩

def SAddr.of : SAddr → (Bool × (Vector UInt8 16)) := fun x => (x.v6, x.b)

def eAddr : Enc SAddr := isoE (prodE bE (arrE 16 u8E)) SAddr.to SAddr.of

def SAddr.l_v6 : Lens eAddr bE 0 := lIso _ SAddr.to SAddr.of (fun _ => rfl) (lFst bE (arrE 16 u8E))

@[simp] theorem SAddr.get_v6 (x : SAddr) : SAddr.l_v6.get x = x.v6 := rfl

@[simp] theorem SAddr.set_v6 (x : SAddr) (y : Bool) : SAddr.l_v6.set x y = { x with v6 := y } := rfl

def SAddr.l_b : Lens eAddr (arrE 16 u8E) 1 := lIso _ SAddr.to SAddr.of (fun _ => rfl) (Lens.comp (lSnd bE (arrE 16 u8E)) (Lens.id (arrE 16 u8E)))

@[simp] theorem SAddr.get_b (x : SAddr) : SAddr.l_b.get x = x.b := rfl

@[simp] theorem SAddr.set_b (x : SAddr) (y : (Vector UInt8 16)) : SAddr.l_b.set x y = { x with b := y } := rfl

structure SPrefix where
  addr : SAddr
  bits : Int

def SPrefix.to : (SAddr × Int) → SPrefix := fun x => ⟨x.1, x.2⟩

def SPrefix.of : SPrefix → (SAddr × Int) := fun x => (x.addr, x.bits)

def ePrefix : Enc SPrefix := isoE (prodE eAddr iE) SPrefix.to SPrefix.of

def SPrefix.l_addr : Lens ePrefix eAddr 0 := lIso _ SPrefix.to SPrefix.of (fun _ => rfl) (lFst eAddr iE)

@[simp] theorem SPrefix.get_addr (x : SPrefix) : SPrefix.l_addr.get x = x.addr := rfl

@[simp] theorem SPrefix.set_addr (x : SPrefix) (y : SAddr) : SPrefix.l_addr.set x y = { x with addr := y } := rfl

def SPrefix.l_bits : Lens ePrefix iE 17 := lIso _ SPrefix.to SPrefix.of (fun _ => rfl) (Lens.comp (lSnd eAddr iE) (Lens.id iE))

@[simp] theorem SPrefix.get_bits (x : SPrefix) : SPrefix.l_bits.get x = x.bits := rfl

@[simp] theorem SPrefix.set_bits (x : SPrefix) (y : Int) : SPrefix.l_bits.set x y = { x with bits := y } := rfl

/-- How many bits an address has. -/
def wd (a : SAddr) : Int := bif a.v6 then 128 else 32
theorem wd_le (a : SAddr) : 32 ≤ wd a ∧ wd a ≤ 128 := by unfold wd; cases a.v6 <;> decide
def mk1 (left : Int) (x : UInt8) : UInt8 := if left ≤ 0 then 0 else if left < 8 then x &&& shl8 255 (8 - left).toNat else x
/-- The first bits; the others 0. -/
def maskV (bits : Int) (b : Vector UInt8 16) : Vector UInt8 16 := Vector.ofFn fun i => mk1 (bits - 8 * (i.val : Int)) b[i]
/-- On the way there. -/
def maskTo (bits : Int) (b : Vector UInt8 16) (k : Int) : Vector UInt8 16 := Vector.ofFn fun i => if (i.val : Int) < k then mk1 (bits - 8 * (i.val : Int)) b[i] else b[i]
theorem maskTo_zero (bits : Int) (b : Vector UInt8 16) : maskTo bits b 0 = b := by
  apply Vector.ext
  intro i hi
  have : ¬ (i : Int) < 0 := by omega
  simp only [maskTo, Vector.getElem_ofFn, if_neg this, Fin.getElem_fin]
theorem maskTo_all (bits : Int) (b : Vector UInt8 16) (k : Int) (h : 16 ≤ k) : maskTo bits b k = maskV bits b := by
  apply Vector.ext
  intro i hi
  have : (i : Int) < k := by omega
  simp [maskTo, maskV, this]
theorem maskTo_step (bits : Int) (b : Vector UInt8 16) (k : Int) (h0 : 0 ≤ k) (h1 : k < 16) (hk : k.toNat < 16) : (maskTo bits b k).set k.toNat (mk1 (bits - 8 * k) b[k.toNat]) hk = maskTo bits b (k + 1) := by
  apply Vector.ext
  intro i hi
  rw [Vector.getElem_set]
  by_cases e : k.toNat = i
  · subst e
    have e2 : ((k.toNat : Nat) : Int) = k := by omega
    have e3 : (k.toNat : Int) < k + 1 := by omega
    simp [maskTo, e2]
    omega
  · rw [if_neg e]
    by_cases e4 : (i : Int) < k
    · have e5 : (i : Int) < k + 1 := by omega
      simp [maskTo, e4, e5]
    · have e5 : ¬ (i : Int) < k + 1 := by omega
      simp [maskTo, e4, e5]
theorem maskTo_skip (bits : Int) (b : Vector UInt8 16) (k : Int) (h0 : 0 ≤ k) (h1 : k < 16) (hk : k.toNat < 16) (h : mk1 (bits - 8 * k) b[k.toNat] = b[k.toNat]) : maskTo bits b k = maskTo bits b (k + 1) := by
  rw [← maskTo_step bits b k h0 h1 hk, h]
  apply Vector.ext
  intro i hi
  rw [Vector.getElem_set]
  split
  · rename_i e
    subst e
    have e2 : ¬ ((k.toNat : Nat) : Int) < k := by omega
    simp only [maskTo, Vector.getElem_ofFn, if_neg e2, Fin.getElem_fin]
  · rfl
theorem maskTo_get (bits : Int) (b : Vector UInt8 16) (k : Int) (h0 : 0 ≤ k) (hk : k.toNat < 16) : (maskTo bits b k)[k.toNat] = b[k.toNat] := by
  have e2 : ¬ ((k.toNat : Nat) : Int) < k := by omega
  simp only [maskTo, Vector.getElem_ofFn, if_neg e2, Fin.getElem_fin]
def checkA (a : SAddr) : Int := if maskV (wd a) a.b = a.b then 0 else 150
def checkP (p : SPrefix) : Int := if p.bits < 0 ∨ wd p.addr < p.bits ∨ maskV p.bits p.addr.b ≠ p.addr.b then 151 else 0
def hasP (p : SPrefix) (a : SAddr) : Bool := decide (checkP p = 0) && decide (checkA a = 0) && decide (a.v6 = p.addr.v6) && decide (p.bits ≤ commonB a.b.toList p.addr.b.toList)
def coversP (p q : SPrefix) : Bool := decide (checkP q = 0) && decide (p.bits ≤ q.bits) && hasP p q.addr

theorem ty4 : TyOK Try.prog 4 bE := TyOK.mk' (by kernel_rfl) (by kernel_rfl)

theorem width_ok (a : SAddr) (w : World) : Calls Try.prog 36 #[eAddr.val a] w (RetV w (I (wd a))) := by
  refine enter0 5 Try.func36 rfl rfl (Nat.le_of_ble_eq_true rfl) ?_
  refine seq (region (cons (box (E := eAddr) (.t rfl) (fun b1 => ?_))))
  refine cons (opv (Ev.assign (.c (v := I 0) rfl)) ?_)
  refine nil (pN (seq (seq (region (cons (opv (Ev.fieldAddr (o := 0) (.t rfl) (by kernel_rfl)) ?_))))))
  refine cons (opv (Ev.ldx a.v6 ty4 (.t rfl) SAddr.l_v6) ?_)
  refine nil (pN ?_)
  first | refine condD rfl (fun h0 => ?_) (fun h0 => ?_) | refine cond rfl (fun h0 => ?_) (fun h0 => ?_)
  · try simp only [nb] at h0
    refine seq (region (cons (opv (Ev.assign (.c (v := I 128) rfl)) ?_)))
    refine nil (pN (ret (pR (done rfl (.tmp rfl .nil) (retE ?_)))))
    simp [wd, h0, tupV]
  · try simp only [nb] at h0
    refine skip (pN (seq (region (cons (opv (Ev.assign (.c (v := I 32) rfl)) ?_)))))
    refine nil (pN (ret (done rfl (.tmp rfl .nil) (retE ?_))))
    simp [wd, h0, tupV]

theorem z31 : (Try.prog.info? 31).bind (·.zero) = some (eAddr.val eAddr.zero) := by kernel_rfl

theorem ty31 : TyOK Try.prog 31 eAddr := TyOK.mk' (by kernel_rfl) (by kernel_rfl)

theorem masked_ok (a : SAddr) (n : Int) (w : World) (hn : 0 ≤ n ∧ n ≤ 128) : Calls Try.prog 37 #[eAddr.val a, I n] w (RetV w (eAddr.val { a with b := maskV n a.b })) := by
  refine enter0 35 Try.func37 rfl rfl (Nat.le_of_ble_eq_true rfl) ?_
  refine seq (region (cons (box (E := eAddr) (.t rfl) (fun b1 => ?_))))
  refine cons (alloc z31 (fun b2 => ?_))
  refine nil (pN (seq (seq (region (cons (opv (Ev.move (.c (v := I 0) rfl)) ?_))))))
  refine nil (pN (block (lp (X := Int × (Vector UInt8 16)) (fun x : Int × (Vector UInt8 16) => (0 ≤ x.1 ∧ x.1 ≤ 16) ∧ (x.2 = maskTo n a.b x.1)) (fun x : Int × (Vector UInt8 16) => [dz, (1, true, I n), (2, true, .pointer (some ⟨b1, 0, none⟩)), (4, true, .pointer (some ⟨b2, 0, none⟩)), (7, true, I x.1)]) (fun x : Int × (Vector UInt8 16) => [Var b2 eAddr eAddr.zero 31, Var b1 eAddr { a with b := x.2 } 31]) (fun x : Int × (Vector UInt8 16) => (16 - x.1).toNat) (0, a.b) ⟨?_, ?_⟩ (fun x hx => ?_) (hL := (by repeat first | exact List.Sublist.refl _ | apply List.Sublist.cons_cons | apply List.Sublist.cons)))))
  · omega
  · exact (maskTo_zero n a.b).symm
  obtain ⟨k, v⟩ := x
  obtain ⟨hk, hv⟩ : (0 ≤ k ∧ k ≤ 16) ∧ (v = maskTo n a.b k) := hx
  show Sat _ _ [dz, (1, true, I n), (2, true, .pointer (some ⟨b1, 0, none⟩)), (4, true, .pointer (some ⟨b2, 0, none⟩)), (7, true, I k)] [Var b2 eAddr eAddr.zero 31, Var b1 eAddr { a with b := v } 31]
  refine seq (region (cons (opv (Ev.lss_i (.t rfl) (.c (v := I 16) rfl)) ?_)))
  refine nil (pN (seq ?_))
  first | refine condD rfl (fun hlt => ?_) (fun hge => ?_) | refine cond rfl (fun hlt => ?_) (fun hge => ?_)
  · try simp only [nb] at hlt
    refine skip (pN (seq (block (seq (region (cons (opv (Ev.move (.t rfl)) (cons (opv (Ev.assign (.t rfl)) (nil (pN (seq (region (cons (opv (Ev.move (.t rfl)) (cons (opv (Ev.move (.t rfl)) (cons (opv (Ev.mul_i (.c (v := I 8) rfl) (.t rfl) (fun _ => by omega)) ?_)))))))))))))))))))
    refine cons (opv (Ev.sub_i (.t rfl) (.t rfl) (fun _ => by omega)) ?_)
    refine cons (opv (Ev.assign (.t rfl)) (nil (pN (block (seq (region ?_))))))
    have hk16 : k.toNat < 16 := by omega
    refine cons (opv (Ev.move (.t rfl)) (cons (opv (Ev.leq_i (.t rfl) (.c (v := I 0) rfl)) ?_)))
    refine cons (opv (Ev.assign (.t rfl)) (nil (pN ?_)))
    first | refine condD rfl (fun hz => ?_) (fun hnz => ?_) | refine cond rfl (fun hz => ?_) (fun hnz => ?_)
    · try simp only [nb] at hz
      have hst : v.set k.toNat 0 hk16 = maskTo n a.b (k + 1) := by
        rw [hv, ← maskTo_step n a.b k hk.1 (by omega) hk16]
        congr 1
        unfold mk1
        rw [if_pos hz]
      refine region (cons (opv (Ev.move (.t rfl)) (cons (opv (Ev.fieldAddr (o := 1) (.t rfl) (by kernel_rfl)) ?_))))
      refine cons (opv (Ev.indexAddrA Try.underlying29 ty5 (.t rfl) (.t rfl) (fun _ => by omega)) ?_)
      refine cons (stv ty5 (Lens.comp SAddr.l_b (lArr (n := 16) u8E _ (by omega))) (.t rfl) (.c (v := U8 0) rfl) ?_)
      refine nil (bN (bN (pN (region (cons (opv (Ev.add_i (.t rfl) (.c (v := I 1) rfl) (fun _ => by omega)) ?_))))))
      refine cons (opv (Ev.move (.t rfl)) (nil (pN (nx (X := Int × (Vector UInt8 16)) (k + 1, _) ⟨?_, ?_⟩ ?_))))
      · try dsimp only
        omega
      · try dsimp only
        exact hst
      · try dsimp only
        omega
    · try simp only [nb] at hnz
      refine seq (region (cons (opv (Ev.move (.t rfl)) (cons (opv (Ev.lss_i (.t rfl) (.c (v := I 8) rfl)) ?_)))))
      refine cons (opv (Ev.assign (.t rfl)) (nil (pN ?_)))
      first | refine condD rfl (fun h8 => ?_) (fun hn8 => ?_) | refine cond rfl (fun h8 => ?_) (fun hn8 => ?_)
      · try simp only [nb] at h8
        have hst : v.set k.toNat (v[k.toNat] &&& shl8 255 (8 - (n - 8 * k)).toNat) hk16 = maskTo n a.b (k + 1) := by
          rw [← maskTo_step n a.b k hk.1 (by omega) hk16, ← hv]
          congr 1
          unfold mk1
          rw [if_neg hnz, if_pos h8, hv, maskTo_get n a.b k hk.1 hk16]
        refine drawS 2 rfl (by repeat first | exact Rem.head | apply Rem.tail) (by kernel_rfl) ?_
        refine tk 0 rfl (Ev.move (.t rfl)) ?_
        refine tk 1 rfl (Ev.fieldAddr (o := 1) (.t rfl) (by kernel_rfl)) ?_
        refine tk 2 rfl (Ev.indexAddrA Try.underlying29 ty5 (.t rfl) (.t rfl) (fun _ => by omega)) ?_
        refine tk 4 rfl (Ev.move (.t rfl)) ?_
        refine tk 5 rfl (Ev.sub_i (.c (v := I 8) rfl) (.t rfl) (fun _ => by omega)) ?_
        refine tk 6 rfl (Ev.shl_u8 (.c (v := U8 255) rfl) (.t rfl) (fun _ => by omega)) ?_
        refine tk 8 rfl (Ev.fieldAddr (o := 1) (.t rfl) (by kernel_rfl)) ?_
        refine al1 3 rfl ((opv (Ev.ldv ty5 (.t rfl) (Lens.comp SAddr.l_b (lArr (n := 16) u8E _ (by omega)))) ?_))
        refine hdn (tk 7 rfl (Ev.and_u8 (.t rfl) (.t rfl)) ?_)
        refine tk 9 rfl (Ev.indexAddrA Try.underlying29 ty5 (.t rfl) (.t rfl) (fun _ => by omega)) ?_
        refine al1 10 rfl ((stv ty5 (Lens.comp SAddr.l_b (lArr (n := 16) u8E _ (by omega))) (.t rfl) (.t rfl) ?_))
        refine hdn (ovr (bN (bN (pN (region (cons (opv (Ev.add_i (.t rfl) (.c (v := I 1) rfl) (fun _ => by omega)) ?_)))))))
        refine cons (opv (Ev.move (.t rfl)) (nil (pN (nx (X := Int × (Vector UInt8 16)) (k + 1, _) ⟨?_, ?_⟩ ?_))))
        · try dsimp only
          omega
        · try dsimp only
          exact hst
        · try dsimp only
          omega
      · try simp only [nb] at hn8
        have hst : v = maskTo n a.b (k + 1) := by
          rw [hv]
          exact maskTo_skip n a.b k hk.1 (by omega) hk16 (by unfold mk1; rw [if_neg hnz, if_neg hn8])
        refine skip (bN (bN (pN (region (cons (opv (Ev.add_i (.t rfl) (.c (v := I 1) rfl) (fun _ => by omega)) ?_))))))
        refine cons (opv (Ev.move (.t rfl)) (nil (pN (nx (X := Int × (Vector UInt8 16)) (k + 1, _) ⟨?_, ?_⟩ ?_))))
        · try dsimp only
          omega
        · try dsimp only
          exact hst
        · try dsimp only
          omega
  · try simp only [nb] at hge
    refine exit (pX (pX (bX (pN (seq (region (cons (opv (Ev.ldv ty31 (.t rfl) (Lens.id _)) ?_))))))))
    refine cons (stv ty31 (Lens.id _) (.t rfl) (.t rfl) ?_)
    refine nil (pN (ret (done rfl (.cell rfl (fun w I => run_loadVar_pts ty31 (ptsVar (by repeat first | exact mH | apply mT | apply mA) (Lens.id _) w I)) .nil) (retE ?_))))
    rw [maskTo_all n a.b k (by omega)] at hv
    rw [← hv]; rfl

theorem ty29 : TyOK Try.prog 29 (arrE 16 u8E) := TyOK.mk' (by kernel_rfl) (by kernel_rfl)

theorem en36 : Gx.Enters Try.prog 36 := Gx.Enters.mk' (by kernel_rfl)

theorem en37 : Gx.Enters Try.prog 37 := Gx.Enters.mk' (by kernel_rfl)

theorem checkA_ok (a : SAddr) (w : World) : Calls Try.prog 40 #[eAddr.val a] w (RetV w (I (checkA a))) := by
  have hw := wd_le a
  refine enter0 11 Try.func40 rfl rfl (Nat.le_of_ble_eq_true rfl) ?_
  refine seq (region (cons (box (E := eAddr) (.t rfl) (fun b1 => ?_))))
  refine cons (opv (Ev.assign (.c (v := I 0) rfl)) ?_)
  refine nil (pN (seq (seq (draw' (by kernel_rfl) ?_))))
  refine tk 0 rfl (Ev.ldx a ty31 (.t rfl) (Lens.id _)) ?_
  refine tk 1 rfl (Ev.ldx a ty31 (.t rfl) (Lens.id _)) ?_
  refine tk 5 rfl (Ev.fieldAddr (o := 1) (.t rfl) (by kernel_rfl)) ?_
  refine tk 6 rfl (Ev.ldx a.b ty29 (.t rfl) SAddr.l_b) ?_
  refine al1 2 rfl ((callv en36 (.cons (.t rfl) .nil) (fun w I => width_ok _ w) ?_))
  refine hdn (al1 3 rfl ((callv en37 (.cons (.t rfl) (.cons (.t rfl) .nil)) (fun w I => masked_ok _ _ w (by first | omega | (simp; omega))) ?_)))
  refine hdn (tk 4 rfl (Ev.fieldS (o := 1) (e := 29) rfl (by kernel_rfl) ty29 SAddr.l_b (.t rfl)) ?_)
  refine tk 7 rfl (Ev.neqS rfl (eqok_arr Try.underlying29 ty5 (eqok_u8 Try.underlying5)) rfl (by kernel_rfl) (.t rfl) (.t rfl)) ?_
  refine ovr (pN ?_)
  first | refine condD rfl (fun h0 => ?_) (fun h0 => ?_) | refine cond rfl (fun h0 => ?_) (fun h0 => ?_)
  · try simp only [nb] at h0
    refine seq (region (cons (opv (Ev.assign (.c (v := I 150) rfl)) ?_)))
    refine nil (pN (ret (pR (done rfl (.tmp rfl .nil) (retE ?_)))))
    have hne : maskV (wd a) a.b ≠ a.b := by simpa using h0
    unfold checkA; rw [if_neg hne]; rfl
  · try simp only [nb] at h0
    refine skip (pN (seq (region (cons (opv (Ev.assign (.c (v := I 0) rfl)) ?_)))))
    refine nil (pN (ret (done rfl (.tmp rfl .nil) (retE ?_))))
    have he : maskV (wd a) a.b = a.b := by simpa using h0
    unfold checkA; rw [if_pos he]; rfl

theorem ty3 : TyOK Try.prog 3 iE := TyOK.mk' (by kernel_rfl) (by kernel_rfl)

theorem checkP_ok (p : SPrefix) (w : World) : Calls Try.prog 10 #[ePrefix.val p] w (RetV w (I (checkP p))) := by
  have hw := wd_le p.addr
  refine enter0 26 Try.func10 rfl rfl (Nat.le_of_ble_eq_true rfl) ?_
  refine seq (region (cons (box (E := ePrefix) (.t rfl) (fun b1 => ?_))))
  refine cons (opv (Ev.assign (.c (v := I 0) rfl)) ?_)
  refine nil (pN (seq (seq (draw' (by kernel_rfl) ?_))))
  refine tk 0 rfl (Ev.fieldAddr (o := 17) (.t rfl) (by kernel_rfl)) ?_
  refine tk 1 rfl (Ev.ldx p.bits ty3 (.t rfl) SPrefix.l_bits) ?_
  refine tk 2 rfl (Ev.lss_i (.t rfl) (.c (v := I 0) rfl)) ?_
  refine tk 3 rfl (Ev.move (.t rfl)) ?_
  refine tkg 4 rfl rfl rfl (Ev.fieldAddr (o := 17) (.t rfl) (by kernel_rfl)) ?_
  refine tkg 5 rfl rfl rfl (Ev.ldx p.bits ty3 (.g rfl id) SPrefix.l_bits) ?_
  refine tkg 6 rfl rfl rfl (Ev.fieldAddr (o := 0) (.t rfl) (by kernel_rfl)) ?_
  refine tkg 7 rfl rfl rfl (Ev.ldx p.addr ty31 (.g rfl id) SPrefix.l_addr) ?_
  refine al1 8 rfl ((callg rfl rfl en36 (.cons (.g rfl id) .nil) (fun hg w I => width_ok _ w) ?_))
  refine hdn (tkg 9 rfl rfl rfl (Ev.gtr_i (.g rfl id) (.g rfl id)) ?_)
  refine tk 10 rfl (Ev.pickO (.t rfl) (.c (v := .bool true) rfl) (fun {_} h => by cases h; rfl) ⟨_, rfl⟩ (by intro h1 h; first | (rw [h] <;> rfl) | (rw [h1, h] <;> rfl) | (rw [h, h1] <;> rfl) | simp_all)) ?_
  refine tk 11 rfl (Ev.move (.t rfl)) ?_
  refine tkg 12 rfl rfl rfl (Ev.fieldAddr (o := 0) (.t rfl) (by kernel_rfl)) ?_
  refine tkg 13 rfl rfl rfl (Ev.ldx p.addr ty31 (.g rfl id) SPrefix.l_addr) ?_
  refine tkg 14 rfl rfl rfl (Ev.fieldAddr (o := 17) (.t rfl) (by kernel_rfl)) ?_
  refine tkg 15 rfl rfl rfl (Ev.ldx p.bits ty3 (.g rfl id) SPrefix.l_bits) ?_
  refine tkg 18 rfl rfl rfl (Ev.fieldAddr (o := 0) (.t rfl) (by kernel_rfl)) ?_
  refine tkg 19 rfl rfl rfl (Ev.fieldAddr (o := 1) (.g rfl id) (by kernel_rfl)) ?_
  refine tkg 20 rfl rfl rfl (Ev.ldx p.addr.b ty29 (.g rfl id) (Lens.comp SPrefix.l_addr SAddr.l_b)) ?_
  refine al1 16 rfl ((callg rfl rfl en37 (.cons (.g rfl id) (.cons (.g rfl id) .nil)) (fun hg w I => masked_ok _ _ w (by simp at hg ⊢; omega)) ?_))
  refine hdn (tkg 17 rfl rfl rfl (Ev.fieldS (o := 1) (e := 29) rfl (by kernel_rfl) ty29 SAddr.l_b (.g rfl id)) ?_)
  refine tkg 21 rfl rfl rfl (Ev.neqS rfl (eqok_arr Try.underlying29 ty5 (eqok_u8 Try.underlying5)) rfl (by kernel_rfl) (.g rfl id) (.g rfl id)) ?_
  refine tk 22 rfl (Ev.pickO (.t rfl) (.c (v := .bool true) rfl) (fun {_} h => by cases h; rfl) ⟨_, rfl⟩ (by intro h1 h; first | (rw [h] <;> rfl) | (rw [h1, h] <;> rfl) | (rw [h, h1] <;> rfl) | simp_all)) ?_
  refine ovr (pN ?_)
  first | refine condD rfl (fun h0 => ?_) (fun h0 => ?_) | refine cond rfl (fun h0 => ?_) (fun h0 => ?_)
  · refine seq (region (cons (opv (Ev.assign (.c (v := I 151) rfl)) ?_)))
    refine nil (pN (ret (pR (done rfl (.tmp rfl .nil) (retE ?_)))))
    unfold checkP; rw [if_pos (by simpa [and_assoc, or_assoc] using h0)]; rfl
  · refine skip (pN (seq (region (cons (opv (Ev.assign (.c (v := I 0) rfl)) ?_)))))
    refine nil (pN (ret (done rfl (.tmp rfl .nil) (retE ?_))))
    unfold checkP; rw [if_neg (by simpa [and_assoc, or_assoc] using h0)]; rfl

theorem ty36 : TyOK Try.prog 36 ePrefix := TyOK.mk' (by kernel_rfl) (by kernel_rfl)

theorem en10 : Gx.Enters Try.prog 10 := Gx.Enters.mk' (by kernel_rfl)

theorem en40 : Gx.Enters Try.prog 40 := Gx.Enters.mk' (by kernel_rfl)

theorem en41 : Gx.Enters Try.prog 41 := Gx.Enters.mk' (by kernel_rfl)

theorem hasP_ok (p : SPrefix) (a : SAddr) (w : World) : Calls Try.prog 14 #[ePrefix.val p, eAddr.val a] w (RetV w (.bool (hasP p a))) := by
  refine enter0 32 Try.func14 rfl rfl (Nat.le_of_ble_eq_true rfl) ?_
  refine seq (region (cons (box (E := ePrefix) (.t rfl) (fun b1 => ?_))))
  refine cons (box (E := eAddr) (.t rfl) (fun b2 => ?_))
  refine cons (opv (Ev.assign (.c (v := .bool false) rfl)) ?_)
  refine nil (pN (seq (draw' (by kernel_rfl) ?_)))
  refine tk 0 rfl (Ev.ldx p ty36 (.t rfl) (Lens.id _)) ?_
  refine al1 1 rfl ((callv en10 (.cons (.t rfl) .nil) (fun w I => checkP_ok _ w) ?_))
  refine hdn (tk 2 rfl (Ev.eql_i (.t rfl) (.c (v := I 0) rfl)) ?_)
  refine tk 3 rfl (Ev.move (.t rfl)) ?_
  refine tkg 4 rfl rfl rfl (Ev.ldx a ty31 (.t rfl) (Lens.id _)) ?_
  refine al1 5 rfl ((callg rfl rfl en40 (.cons (.g rfl id) .nil) (fun hg w I => checkA_ok _ w) ?_))
  refine hdn (tkg 6 rfl rfl rfl (Ev.eql_i (.g rfl id) (.c (v := I 0) rfl)) ?_)
  refine tk 7 rfl (Ev.pickA (.t rfl) (fun {_} h => by cases h; rfl) ⟨_, rfl⟩ (by intro h1 h; first | (rw [h] <;> rfl) | (rw [h1, h] <;> rfl) | (rw [h, h1] <;> rfl) | simp_all) (.c (v := .bool false) rfl)) ?_
  refine tk 8 rfl (Ev.move (.t rfl)) ?_
  refine tkg 9 rfl rfl rfl (Ev.fieldAddr (o := 0) (.t rfl) (by kernel_rfl)) ?_
  refine tkg 10 rfl rfl rfl (Ev.ldx a.v6 ty4 (.g rfl id) SAddr.l_v6) ?_
  refine tkg 11 rfl rfl rfl (Ev.fieldAddr (o := 0) (.t rfl) (by kernel_rfl)) ?_
  refine tkg 12 rfl rfl rfl (Ev.fieldAddr (o := 0) (.g rfl id) (by kernel_rfl)) ?_
  refine tkg 13 rfl rfl rfl (Ev.ldx p.addr.v6 ty4 (.g rfl id) (Lens.comp SPrefix.l_addr SAddr.l_v6)) ?_
  refine tkg 14 rfl rfl rfl (Ev.eql_b Try.underlying4 (.g rfl id) (.g rfl id)) ?_
  refine tk 15 rfl (Ev.pickA (.t rfl) (fun {_} h => by cases h; rfl) ⟨_, rfl⟩ (by intro h1 h; first | (rw [h] <;> rfl) | (rw [h1, h] <;> rfl) | (rw [h, h1] <;> rfl) | simp_all) (.c (v := .bool false) rfl)) ?_
  refine tk 16 rfl (Ev.move (.t rfl)) ?_
  refine tkg 17 rfl rfl rfl (Ev.fieldAddr (o := 1) (.t rfl) (by kernel_rfl)) ?_
  refine tkg 18 rfl rfl rfl (Ev.sliceArr (l := 0) (h := 16) Try.underlying29 ty5 (.g rfl id) rfl rfl (fun _ => by decide)) ?_
  refine tkg 19 rfl rfl rfl (Ev.fieldAddr (o := 0) (.t rfl) (by kernel_rfl)) ?_
  refine tkg 20 rfl rfl rfl (Ev.fieldAddr (o := 1) (.g rfl id) (by kernel_rfl)) ?_
  refine tkg 21 rfl rfl rfl (Ev.sliceArr (l := 0) (h := 16) Try.underlying29 ty5 (.g rfl id) rfl rfl (fun _ => by decide)) ?_
  refine tkg 23 rfl rfl rfl (Ev.fieldAddr (o := 17) (.t rfl) (by kernel_rfl)) ?_
  refine tkg 24 rfl rfl rfl (Ev.ldx p.bits ty3 (.g rfl id) SPrefix.l_bits) ?_
  refine al1 22 rfl ((callg rfl rfl en41 (.cons (.g rfl id) (.cons (.g rfl id) .nil)) (fun hg w I => common_ok _ _ _ _ w (isSl_arr (ptsVar (by repeat first | exact mH | apply mT | apply mA) SAddr.l_b w I) (by decide) (by decide) (by decide)) (isSl_arr (ptsVar (by repeat first | exact mH | apply mT | apply mA) (Lens.comp SPrefix.l_addr SAddr.l_b) w I) (by decide) (by decide) (by decide)) (by first | omega | (simp; done))) ?_))
  refine hdn (tkg 25 rfl rfl rfl (Ev.geq_i (.g rfl id) (.g rfl id)) ?_)
  refine tk 26 rfl (Ev.pickA (.t rfl) (fun {_} h => by cases h; rfl) ⟨_, rfl⟩ (by intro h1 h; first | (rw [h] <;> rfl) | (rw [h1, h] <;> rfl) | (rw [h, h1] <;> rfl) | simp_all) (.c (v := .bool false) rfl)) ?_
  refine tk 27 rfl (Ev.assign (.t rfl)) ?_
  refine ovr (pN (ret (done rfl (.tmp rfl .nil) (retE ?_))))
  unfold hasP; simp [tupV, Bool.and_assoc, eqd]

theorem en14 : Gx.Enters Try.prog 14 := Gx.Enters.mk' (by kernel_rfl)

theorem coversP_ok (p q : SPrefix) (w : World) : Calls Try.prog 15 #[ePrefix.val p, ePrefix.val q] w (RetV w (.bool (coversP p q))) := by
  refine enter0 21 Try.func15 rfl rfl (Nat.le_of_ble_eq_true rfl) ?_
  refine seq (region (cons (box (E := ePrefix) (.t rfl) (fun b1 => ?_))))
  refine cons (box (E := ePrefix) (.t rfl) (fun b2 => ?_))
  refine cons (opv (Ev.assign (.c (v := .bool false) rfl)) ?_)
  refine nil (pN (seq (region (cons (opv (Ev.ldx q ty36 (.t rfl) (Lens.id _)) ?_)))))
  refine cons (callv en10 (.cons (.t rfl) .nil) (fun w I => checkP_ok _ w) ?_)
  refine cons (opv (Ev.eql_i (.t rfl) (.c (v := I 0) rfl)) ?_)
  refine cons (opv (Ev.move (.t rfl)) (cons (opg rfl rfl (Ev.fieldAddr (o := 17) (.t rfl) (by kernel_rfl)) ?_)))
  refine cons (opg rfl rfl (Ev.ldx p.bits ty3 (.g rfl id) SPrefix.l_bits) ?_)
  refine cons (opg rfl rfl (Ev.fieldAddr (o := 17) (.t rfl) (by kernel_rfl)) ?_)
  refine cons (opg rfl rfl (Ev.ldx q.bits ty3 (.g rfl id) SPrefix.l_bits) ?_)
  refine cons (opg rfl rfl (Ev.leq_i (.g rfl id) (.g rfl id)) ?_)
  refine cons (opv (Ev.pickA (.t rfl) (fun {_} h => by cases h; rfl) ⟨_, rfl⟩ (by intro h1 h; first | (rw [h] <;> rfl) | (rw [h1, h] <;> rfl) | (rw [h, h1] <;> rfl) | simp_all) (.c (v := .bool false) rfl)) ?_)
  refine cons (opv (Ev.move (.t rfl)) (cons (opg rfl rfl (Ev.ldx p ty36 (.t rfl) (Lens.id _)) ?_)))
  refine cons (opg rfl rfl (Ev.fieldAddr (o := 0) (.t rfl) (by kernel_rfl)) ?_)
  refine cons (opg rfl rfl (Ev.ldx q.addr ty31 (.g rfl id) SPrefix.l_addr) ?_)
  refine cons (callg rfl rfl en14 (.cons (.g rfl id) (.cons (.g rfl id) .nil)) (fun hg w I => hasP_ok _ _ w) ?_)
  refine cons (opv (Ev.pickA (.t rfl) (fun {_} h => by cases h; rfl) ⟨_, rfl⟩ (by intro h1 h; first | (rw [h] <;> rfl) | (rw [h1, h] <;> rfl) | (rw [h, h1] <;> rfl) | simp_all) (.c (v := .bool false) rfl)) ?_)
  refine cons (opv (Ev.assign (.t rfl)) (nil (pN (ret (done rfl (.tmp rfl .nil) (retE ?_))))))
  unfold coversP; simp [tupV, Bool.and_assoc]; done
end Go.Proofs.Ytjjlofjpdklbgaa
