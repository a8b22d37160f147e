/- conf -/
import Derived.Test.YtnoobdijbpmjkaaGreatC7
set_option linter.unusedVariables false
set_option linter.unusedSimpArgs false
namespace Go.Proofs.YtnoobdijbpmjkaaGreat
open Go Go.Gx

/-- How many bits a byte has: the table. -/
def len8Tab : ByteArray := (ByteArray.mk (List.toArray (List.append (List.append [0, 1, 2, 2, 3, 3, 3, 3, 4, 4, 4, 4, 4, 4, 4, 4, 5, 5, 5, 5, 5, 5, 5, 5, 5, 5, 5, 5, 5, 5, 5, 5, 6, 6, 6, 6, 6, 6, 6, 6, 6, 6, 6, 6, 6, 6, 6, 6, 6, 6, 6, 6, 6, 6, 6, 6, 6, 6, 6, 6, 6, 6, 6, 6] [7, 7, 7, 7, 7, 7, 7, 7, 7, 7, 7, 7, 7, 7, 7, 7, 7, 7, 7, 7, 7, 7, 7, 7, 7, 7, 7, 7, 7, 7, 7, 7, 7, 7, 7, 7, 7, 7, 7, 7, 7, 7, 7, 7, 7, 7, 7, 7, 7, 7, 7, 7, 7, 7, 7, 7, 7, 7, 7, 7, 7, 7, 7, 7]) (List.append [8, 8, 8, 8, 8, 8, 8, 8, 8, 8, 8, 8, 8, 8, 8, 8, 8, 8, 8, 8, 8, 8, 8, 8, 8, 8, 8, 8, 8, 8, 8, 8, 8, 8, 8, 8, 8, 8, 8, 8, 8, 8, 8, 8, 8, 8, 8, 8, 8, 8, 8, 8, 8, 8, 8, 8, 8, 8, 8, 8, 8, 8, 8, 8] [8, 8, 8, 8, 8, 8, 8, 8, 8, 8, 8, 8, 8, 8, 8, 8, 8, 8, 8, 8, 8, 8, 8, 8, 8, 8, 8, 8, 8, 8, 8, 8, 8, 8, 8, 8, 8, 8, 8, 8, 8, 8, 8, 8, 8, 8, 8, 8, 8, 8, 8, 8, 8, 8, 8, 8, 8, 8, 8, 8, 8, 8, 8, 8]))))
def len8 (x : UInt8) : UInt8 := (len8Tab[x.toNat]?).getD 0
/-- A bit of bytes, the highest first. -/
def bitU (b : List UInt8) (i : Int) : UInt8 := shr8 (b.getD (i / 8).toNat 0) (7 - i % 8).toNat &&& 1
/-- Bits as a number. -/
def bitsV (b : List UInt8) (f : Int) : Nat → UInt64
  | 0 => 0
  | n + 1 => shl64 (bitsV b f n) 1 ||| (bitU b (f + n)).toUInt64
def bitsB (b : List UInt8) (f n : Int) : UInt64 × Int := if n < 0 ∨ 64 < n then (0, 2) else if f < 0 ∨ 8 * b.length - n < f then (0, 5) else (bitsV b f n.toNat, 0)
/-- How many first bytes are alike. -/
def comI : List UInt8 → List UInt8 → Nat
  | x :: a, y :: b => if x = y then comI a b + 1 else 0
  | _, _ => 0
def commonB (a b : List UInt8) : Int := if (comI a b : Int) = min (a.length : Int) b.length then 8 * min (a.length : Int) b.length else 8 * (comI a b : Int) + (8 - ((len8 (a.getD (comI a b) 0 ^^^ b.getD (comI a b) 0)).toNat : Int))

/-- A bit of a number. -/
def bn (x k : Nat) : Nat := x / 2 ^ k % 2
/-- n is how many first bits are alike. -/
structure IsCom (a b : List UInt8) (n : Int) : Prop where
  p : 0 ≤ n
  la : n ≤ 8 * a.length
  lb : n ≤ 8 * b.length
  eq : ∀ i : Int, 0 ≤ i → i < n → bitU a i = bitU b i
  ne : n < 8 * a.length → n < 8 * b.length → bitU a n ≠ bitU b n
theorem IsCom.symm {a b : List UInt8} {n : Int} (h : IsCom a b n) : IsCom b a n := ⟨h.p, h.lb, h.la, fun i h0 hi => (h.eq i h0 hi).symm, fun h1 h2 e => h.ne h2 h1 e.symm⟩
/-- How many bits an address has. -/
def wd (a : SAddr) : Int := bif a.v6 then 128 else 32
theorem wd_le (a : SAddr) : 32 ≤ wd a ∧ wd a ≤ 128 := by unfold wd; cases a.v6 <;> decide
def mk1 (left : Int) (x : UInt8) : UInt8 := if left ≤ 0 then 0 else if left < 8 then x &&& shl8 255 (8 - left).toNat else x
/-- The first bits; the others 0. -/
def maskV (bits : Int) (b : Vector UInt8 16) : Vector UInt8 16 := Vector.ofFn fun i => mk1 (bits - 8 * (i.val : Int)) b[i]
/-- On the way there. -/
def maskTo (bits : Int) (b : Vector UInt8 16) (k : Int) : Vector UInt8 16 := Vector.ofFn fun i => if (i.val : Int) < k then mk1 (bits - 8 * (i.val : Int)) b[i] else b[i]
theorem maskTo_zero (bits : Int) (b : Vector UInt8 16) : maskTo bits b 0 = b := by
  apply Vector.ext
  intro i hi
  have : ¬ (i : Int) < 0 := by omega
  simp only [maskTo, Vector.getElem_ofFn, if_neg this, Fin.getElem_fin]
theorem maskTo_all (bits : Int) (b : Vector UInt8 16) (k : Int) (h : 16 ≤ k) : maskTo bits b k = maskV bits b := by
  apply Vector.ext
  intro i hi
  have : (i : Int) < k := by omega
  simp [maskTo, maskV, this]
theorem maskTo_step (bits : Int) (b : Vector UInt8 16) (k : Int) (h0 : 0 ≤ k) (h1 : k < 16) (hk : k.toNat < 16) : (maskTo bits b k).set k.toNat (mk1 (bits - 8 * k) b[k.toNat]) hk = maskTo bits b (k + 1) := by
  apply Vector.ext
  intro i hi
  rw [Vector.getElem_set]
  by_cases e : k.toNat = i
  · subst e
    have e2 : ((k.toNat : Nat) : Int) = k := by omega
    have e3 : (k.toNat : Int) < k + 1 := by omega
    simp [maskTo, e2]
    omega
  · rw [if_neg e]
    by_cases e4 : (i : Int) < k
    · have e5 : (i : Int) < k + 1 := by omega
      simp [maskTo, e4, e5]
    · have e5 : ¬ (i : Int) < k + 1 := by omega
      simp [maskTo, e4, e5]
theorem maskTo_skip (bits : Int) (b : Vector UInt8 16) (k : Int) (h0 : 0 ≤ k) (h1 : k < 16) (hk : k.toNat < 16) (h : mk1 (bits - 8 * k) b[k.toNat] = b[k.toNat]) : maskTo bits b k = maskTo bits b (k + 1) := by
  rw [← maskTo_step bits b k h0 h1 hk, h]
  apply Vector.ext
  intro i hi
  rw [Vector.getElem_set]
  split
  · rename_i e
    subst e
    have e2 : ¬ ((k.toNat : Nat) : Int) < k := by omega
    simp only [maskTo, Vector.getElem_ofFn, if_neg e2, Fin.getElem_fin]
  · rfl
theorem maskTo_get (bits : Int) (b : Vector UInt8 16) (k : Int) (h0 : 0 ≤ k) (hk : k.toNat < 16) : (maskTo bits b k)[k.toNat] = b[k.toNat] := by
  have e2 : ¬ ((k.toNat : Nat) : Int) < k := by omega
  simp only [maskTo, Vector.getElem_ofFn, if_neg e2, Fin.getElem_fin]
def checkA (a : SAddr) : Int := if maskV (wd a) a.b = a.b then 0 else 150
def checkP (p : SPrefix) : Int := if p.bits < 0 ∨ wd p.addr < p.bits ∨ maskV p.bits p.addr.b ≠ p.addr.b then 151 else 0
def hasP (p : SPrefix) (a : SAddr) : Bool := decide (checkP p = 0) && decide (checkA a = 0) && decide (a.v6 = p.addr.v6) && decide (p.bits ≤ commonB a.b.toList p.addr.b.toList)
def coversP (p q : SPrefix) : Bool := decide (checkP q = 0) && decide (p.bits ≤ q.bits) && hasP p q.addr

theorem width_ok (a : SAddr) (w : World) : Calls Tryz.prog 151 #[eAddr.val a] w (RetV w (I (wd a))) := by
  refine enter0 5 Tryz.func151 rfl rfl (Nat.le_of_ble_eq_true rfl) ?_
  refine seq (region (cons (box (E := eAddr) (.t rfl) (fun b1 => ?_))))
  refine cons (opv (Ev.assign (.c (v := I 0) rfl)) ?_)
  refine nil (pN (seq (seq (region (cons (opv (Ev.fieldAddr (o := 0) (.t rfl) (by kernel_rfl)) ?_))))))
  refine cons (opv (Ev.load (xv := a.v6) ty4 (.t rfl) (ptsVar (by repeat first | exact mH | apply mT | apply mA) SAddr.l_v6)) ?_)
  refine nil (pN ?_)
  first | refine condD rfl (fun h0 => ?_) (fun h0 => ?_) | refine cond rfl (fun h0 => ?_) (fun h0 => ?_)
  · try simp only [nb] at h0
    refine seq (region (cons (opv (Ev.assign (.c (v := I 128) rfl)) ?_)))
    refine nil (pN (ret (pR (done rfl (.tmp rfl .nil) (retE ?_)))))
    simp [wd, h0, tupV]
  · try simp only [nb] at h0
    refine skip (pN (seq (region (cons (opv (Ev.assign (.c (v := I 32) rfl)) ?_)))))
    refine nil (pN (ret (done rfl (.tmp rfl .nil) (retE ?_))))
    simp [wd, h0, tupV]

theorem z48 : (Tryz.prog.info? 48).bind (·.zero) = some (eAddr.val eAddr.zero) := by kernel_rfl

theorem masked_ok (a : SAddr) (n : Int) (w : World) (hn : 0 ≤ n ∧ n ≤ 128) : Calls Tryz.prog 152 #[eAddr.val a, I n] w (RetV w (eAddr.val { a with b := maskV n a.b })) := by
  refine enter0 35 Tryz.func152 rfl rfl (Nat.le_of_ble_eq_true rfl) ?_
  refine seq (region (cons (box (E := eAddr) (.t rfl) (fun b1 => ?_))))
  refine cons (alloc z48 (fun b2 => ?_))
  refine nil (pN (seq (seq (region (cons (opv (Ev.move (.c (v := I 0) rfl)) ?_))))))
  refine nil (pN (block (loop (X := Int × (Vector UInt8 16)) (fun x : Int × (Vector UInt8 16) => (0 ≤ x.1 ∧ x.1 ≤ 16) ∧ (x.2 = maskTo n a.b x.1)) (fun x : Int × (Vector UInt8 16) => [(1, true, I n), (2, true, .pointer (some ⟨b1, 0, none⟩)), (4, true, .pointer (some ⟨b2, 0, none⟩)), (7, true, I x.1)]) (fun x : Int × (Vector UInt8 16) => [Var b2 eAddr eAddr.zero 48, Var b1 eAddr { a with b := x.2 } 48]) (fun x : Int × (Vector UInt8 16) => (16 - x.1).toNat) (0, a.b) ⟨?_, ?_⟩ (by repeat first | exact Sub.nil | refine Sub.cons rfl ?_) (by repeat first | exact List.Sublist.refl _ | apply List.Sublist.cons_cons | apply List.Sublist.cons) (fun x hx => ?_))))
  · omega
  · exact (maskTo_zero n a.b).symm
  obtain ⟨k, v⟩ := x
  obtain ⟨hk, hv⟩ : (0 ≤ k ∧ k ≤ 16) ∧ (v = maskTo n a.b k) := hx
  show Sat _ _ [(1, true, I n), (2, true, .pointer (some ⟨b1, 0, none⟩)), (4, true, .pointer (some ⟨b2, 0, none⟩)), (7, true, I k)] [Var b2 eAddr eAddr.zero 48, Var b1 eAddr { a with b := v } 48]
  refine seq (region (cons (opv (Ev.lss_i (.t rfl) (.c (v := I 16) rfl)) ?_)))
  refine nil (pN (seq ?_))
  first | refine condD rfl (fun hlt => ?_) (fun hge => ?_) | refine cond rfl (fun hlt => ?_) (fun hge => ?_)
  · try simp only [nb] at hlt
    refine skip (pN (seq (block (seq (region (cons (opv (Ev.move (.t rfl)) (cons (opv (Ev.assign (.t rfl)) (nil (pN (seq (region (cons (opv (Ev.move (.t rfl)) (cons (opv (Ev.move (.t rfl)) (cons (opv (Ev.mul_i (.c (v := I 8) rfl) (.t rfl) (fun _ => by omega)) ?_)))))))))))))))))))
    refine cons (opv (Ev.sub_i (.t rfl) (.t rfl) (fun _ => by omega)) ?_)
    refine cons (opv (Ev.assign (.t rfl)) (nil (pN (block (seq (region ?_))))))
    have hk16 : k.toNat < 16 := by omega
    refine cons (opv (Ev.move (.t rfl)) (cons (opv (Ev.leq_i (.t rfl) (.c (v := I 0) rfl)) ?_)))
    refine cons (opv (Ev.assign (.t rfl)) (nil (pN ?_)))
    first | refine condD rfl (fun hz => ?_) (fun hnz => ?_) | refine cond rfl (fun hz => ?_) (fun hnz => ?_)
    · try simp only [nb] at hz
      have hst : v.set k.toNat 0 hk16 = maskTo n a.b (k + 1) := by
        rw [hv, ← maskTo_step n a.b k hk.1 (by omega) hk16]
        congr 1
        unfold mk1
        rw [if_pos hz]
      refine region (cons (opv (Ev.move (.t rfl)) (cons (opv (Ev.fieldAddr (o := 1) (.t rfl) (by kernel_rfl)) ?_))))
      refine cons (opv (Ev.indexAddrA Tryz.underlying46 ty5 (.t rfl) (.t rfl) (fun _ => by omega)) ?_)
      refine cons (stv ty5 (Lens.comp SAddr.l_b (lArr (n := 16) u8E _ (by omega))) (.t rfl) (.c (v := U8 0) rfl) ?_)
      refine nil (bN (bN (pN (region (cons (opv (Ev.add_i (.t rfl) (.c (v := I 1) rfl) (fun _ => by omega)) ?_))))))
      refine cons (opv (Ev.move (.t rfl)) (nil (pN (next (X := Int × (Vector UInt8 16)) (k + 1, _) ⟨?_, ?_⟩ ?_ (by repeat first | exact Sub.nil | refine Sub.cons rfl ?_) (by repeat first | exact sR | exact sN | apply sC | apply sS | apply sA)))))
      · try dsimp only
        omega
      · try dsimp only
        exact hst
      · try dsimp only
        omega
    · try simp only [nb] at hnz
      refine seq (region (cons (opv (Ev.move (.t rfl)) (cons (opv (Ev.lss_i (.t rfl) (.c (v := I 8) rfl)) ?_)))))
      refine cons (opv (Ev.assign (.t rfl)) (nil (pN ?_)))
      first | refine condD rfl (fun h8 => ?_) (fun hn8 => ?_) | refine cond rfl (fun h8 => ?_) (fun hn8 => ?_)
      · try simp only [nb] at h8
        have hst : v.set k.toNat (v[k.toNat] &&& shl8 255 (8 - (n - 8 * k)).toNat) hk16 = maskTo n a.b (k + 1) := by
          rw [← maskTo_step n a.b k hk.1 (by omega) hk16, ← hv]
          congr 1
          unfold mk1
          rw [if_neg hnz, if_pos h8, hv, maskTo_get n a.b k hk.1 hk16]
        refine drawS 2 rfl (by repeat first | exact Rem.head | apply Rem.tail) (by kernel_rfl) ?_
        refine tk 0 rfl (Ev.move (.t rfl)) ?_
        refine tk 1 rfl (Ev.fieldAddr (o := 1) (.t rfl) (by kernel_rfl)) ?_
        refine tk 2 rfl (Ev.indexAddrA Tryz.underlying46 ty5 (.t rfl) (.t rfl) (fun _ => by omega)) ?_
        refine tk 4 rfl (Ev.move (.t rfl)) ?_
        refine tk 5 rfl (Ev.sub_i (.c (v := I 8) rfl) (.t rfl) (fun _ => by omega)) ?_
        refine tk 6 rfl (Ev.shl_u8 (.c (v := U8 255) rfl) (.t rfl) (fun _ => by omega)) ?_
        refine tk 8 rfl (Ev.fieldAddr (o := 1) (.t rfl) (by kernel_rfl)) ?_
        refine al1 3 rfl ((opv (Ev.ldv ty5 (.t rfl) (Lens.comp SAddr.l_b (lArr (n := 16) u8E _ (by omega)))) ?_))
        refine hdn (tk 7 rfl (Ev.and_u8 (.t rfl) (.t rfl)) ?_)
        refine tk 9 rfl (Ev.indexAddrA Tryz.underlying46 ty5 (.t rfl) (.t rfl) (fun _ => by omega)) ?_
        refine al1 10 rfl ((stv ty5 (Lens.comp SAddr.l_b (lArr (n := 16) u8E _ (by omega))) (.t rfl) (.t rfl) ?_))
        refine hdn (ovr (bN (bN (pN (region (cons (opv (Ev.add_i (.t rfl) (.c (v := I 1) rfl) (fun _ => by omega)) ?_)))))))
        refine cons (opv (Ev.move (.t rfl)) (nil (pN (next (X := Int × (Vector UInt8 16)) (k + 1, _) ⟨?_, ?_⟩ ?_ (by repeat first | exact Sub.nil | refine Sub.cons rfl ?_) (by repeat first | exact sR | exact sN | apply sC | apply sS | apply sA)))))
        · try dsimp only
          omega
        · try dsimp only
          exact hst
        · try dsimp only
          omega
      · try simp only [nb] at hn8
        have hst : v = maskTo n a.b (k + 1) := by
          rw [hv]
          exact maskTo_skip n a.b k hk.1 (by omega) hk16 (by unfold mk1; rw [if_neg hnz, if_neg hn8])
        refine skip (bN (bN (pN (region (cons (opv (Ev.add_i (.t rfl) (.c (v := I 1) rfl) (fun _ => by omega)) ?_))))))
        refine cons (opv (Ev.move (.t rfl)) (nil (pN (next (X := Int × (Vector UInt8 16)) (k + 1, _) ⟨?_, ?_⟩ ?_ (by repeat first | exact Sub.nil | refine Sub.cons rfl ?_) (by repeat first | exact sR | exact sN | apply sC | apply sS | apply sA)))))
        · try dsimp only
          omega
        · try dsimp only
          exact hst
        · try dsimp only
          omega
  · try simp only [nb] at hge
    refine exit (pX (pX (bX (pN (seq (region (cons (opv (Ev.ldv ty48 (.t rfl) (Lens.id _)) ?_))))))))
    refine cons (stv ty48 (Lens.id _) (.t rfl) (.t rfl) ?_)
    refine nil (pN (ret (done rfl (.cell rfl (fun w I => run_loadVar_pts ty48 (ptsVar (by repeat first | exact mH | apply mT | apply mA) (Lens.id _) w I)) .nil) (retE ?_))))
    rw [maskTo_all n a.b k (by omega)] at hv
    rw [← hv]; rfl

theorem en151 : Gx.Enters Tryz.prog 151 := Gx.Enters.mk' (by kernel_rfl)

theorem en152 : Gx.Enters Tryz.prog 152 := Gx.Enters.mk' (by kernel_rfl)

theorem checkP_ok (p : SPrefix) (w : World) : Calls Tryz.prog 114 #[ePrefix.val p] w (RetV w (I (checkP p))) := by
  have hw := wd_le p.addr
  refine enter0 26 Tryz.func114 rfl rfl (Nat.le_of_ble_eq_true rfl) ?_
  refine seq (region (cons (box (E := ePrefix) (.t rfl) (fun b1 => ?_))))
  refine cons (opv (Ev.assign (.c (v := I 0) rfl)) ?_)
  refine nil (pN (seq (seq (draw' (by kernel_rfl) ?_))))
  refine tk 0 rfl (Ev.fieldAddr (o := 17) (.t rfl) (by kernel_rfl)) ?_
  refine tk 1 rfl (Ev.load (xv := p.bits) ty3 (.t rfl) (ptsVar (by repeat first | exact mH | apply mT | apply mA) SPrefix.l_bits)) ?_
  refine tk 2 rfl (Ev.lss_i (.t rfl) (.c (v := I 0) rfl)) ?_
  refine tk 3 rfl (Ev.move (.t rfl)) ?_
  refine tkg 4 rfl rfl rfl (Ev.fieldAddr (o := 17) (.t rfl) (by kernel_rfl)) ?_
  refine tkg 5 rfl rfl rfl (Ev.load (xv := p.bits) ty3 (.g rfl id) (ptsVar (by repeat first | exact mH | apply mT | apply mA) SPrefix.l_bits)) ?_
  refine tkg 6 rfl rfl rfl (Ev.fieldAddr (o := 0) (.t rfl) (by kernel_rfl)) ?_
  refine tkg 7 rfl rfl rfl (Ev.load (xv := p.addr) ty48 (.g rfl id) (ptsVar (by repeat first | exact mH | apply mT | apply mA) SPrefix.l_addr)) ?_
  refine al1 8 rfl ((callg rfl rfl en151 (.cons (.g rfl id) .nil) (fun hg w I => width_ok _ w) ?_))
  refine hdn (tkg 9 rfl rfl rfl (Ev.gtr_i (.g rfl id) (.g rfl id)) ?_)
  refine tk 10 rfl (Ev.pickO (.t rfl) (.c (v := .bool true) rfl) (fun {_} h => by cases h; rfl) ⟨_, rfl⟩ (by intro h1 h; first | (rw [h] <;> rfl) | (rw [h1, h] <;> rfl) | (rw [h, h1] <;> rfl) | simp_all)) ?_
  refine tk 11 rfl (Ev.move (.t rfl)) ?_
  refine tkg 12 rfl rfl rfl (Ev.fieldAddr (o := 0) (.t rfl) (by kernel_rfl)) ?_
  refine tkg 13 rfl rfl rfl (Ev.load (xv := p.addr) ty48 (.g rfl id) (ptsVar (by repeat first | exact mH | apply mT | apply mA) SPrefix.l_addr)) ?_
  refine tkg 14 rfl rfl rfl (Ev.fieldAddr (o := 17) (.t rfl) (by kernel_rfl)) ?_
  refine tkg 15 rfl rfl rfl (Ev.load (xv := p.bits) ty3 (.g rfl id) (ptsVar (by repeat first | exact mH | apply mT | apply mA) SPrefix.l_bits)) ?_
  refine tkg 18 rfl rfl rfl (Ev.fieldAddr (o := 0) (.t rfl) (by kernel_rfl)) ?_
  refine tkg 19 rfl rfl rfl (Ev.fieldAddr (o := 1) (.g rfl id) (by kernel_rfl)) ?_
  refine tkg 20 rfl rfl rfl (Ev.load (xv := p.addr.b) ty46 (.g rfl id) (ptsVar (by repeat first | exact mH | apply mT | apply mA) (Lens.comp SPrefix.l_addr SAddr.l_b))) ?_
  refine al1 16 rfl ((callg rfl rfl en152 (.cons (.g rfl id) (.cons (.g rfl id) .nil)) (fun hg w I => masked_ok _ _ w (by simp at hg ⊢; omega)) ?_))
  refine hdn (tkg 17 rfl rfl rfl (Ev.fieldS (o := 1) (e := 46) rfl (by kernel_rfl) ty46 SAddr.l_b (.g rfl id)) ?_)
  refine tkg 21 rfl rfl rfl (Ev.neqS rfl (eqok_arr Tryz.underlying46 ty5 (eqok_u8 Tryz.underlying5)) rfl (by kernel_rfl) (.g rfl id) (.g rfl id)) ?_
  refine tk 22 rfl (Ev.pickO (.t rfl) (.c (v := .bool true) rfl) (fun {_} h => by cases h; rfl) ⟨_, rfl⟩ (by intro h1 h; first | (rw [h] <;> rfl) | (rw [h1, h] <;> rfl) | (rw [h, h1] <;> rfl) | simp_all)) ?_
  refine ovr (pN ?_)
  first | refine condD rfl (fun h0 => ?_) (fun h0 => ?_) | refine cond rfl (fun h0 => ?_) (fun h0 => ?_)
  · refine seq (region (cons (opv (Ev.assign (.c (v := I 151) rfl)) ?_)))
    refine nil (pN (ret (pR (done rfl (.tmp rfl .nil) (retE ?_)))))
    unfold checkP; rw [if_pos (by simpa [and_assoc, or_assoc] using h0)]; rfl
  · refine skip (pN (seq (region (cons (opv (Ev.assign (.c (v := I 0) rfl)) ?_)))))
    refine nil (pN (ret (done rfl (.tmp rfl .nil) (retE ?_))))
    unfold checkP; rw [if_neg (by simpa [and_assoc, or_assoc] using h0)]; rfl

theorem en114 : Gx.Enters Tryz.prog 114 := Gx.Enters.mk' (by kernel_rfl)

/-- May a bucket be? -/
def ckB (b : SBucket) : Int := if b.num < 1 ∨ 65536 < b.num ∨ b.den < 1 ∨ 65536 < b.den ∨ b.burst < 1 ∨ 1048576 < b.burst then 2 else 0

theorem bucket_ok (b : SBucket) (w : World) : Calls Tryz.prog 118 #[eBucket.val b] w (RetV w (I (ckB b))) := by
  refine enter0 31 Tryz.func118 rfl rfl (Nat.le_of_ble_eq_true rfl) ?_
  refine seq (region (cons (box (E := eBucket) (.t rfl) (fun b1 => ?_))))
  refine cons (opv (Ev.assign (.c (v := I 0) rfl)) ?_)
  refine nil (pN (seq (seq (region (cons (opv (Ev.fieldAddr (o := 0) (.t rfl) (by kernel_rfl)) ?_))))))
  refine cons (opv (Ev.load (xv := b.num) ty53 (.t rfl) (ptsVar (by repeat first | exact mH | apply mT | apply mA) SBucket.l_num)) ?_)
  refine cons (opv (Ev.lss_u64 (.t rfl) (.c (v := U64 1) rfl)) ?_)
  refine cons (opv (Ev.move (.t rfl)) (cons (opg rfl rfl (Ev.fieldAddr (o := 0) (.t rfl) (by kernel_rfl)) ?_)))
  refine cons (opg rfl rfl (Ev.load (xv := b.num) ty53 (.g rfl id) (ptsVar (by repeat first | exact mH | apply mT | apply mA) SBucket.l_num)) ?_)
  refine cons (opg rfl rfl (Ev.gtr_u64 (.g rfl id) (.c (v := U64 65536) rfl)) ?_)
  refine cons (opv (Ev.pickO (.t rfl) (.c (v := .bool true) rfl) (fun {_} h => by cases h; rfl) ⟨_, rfl⟩ (by intro h1 h; first | (rw [h] <;> rfl) | (rw [h1, h] <;> rfl) | (rw [h, h1] <;> rfl) | simp_all)) ?_)
  refine cons (opv (Ev.move (.t rfl)) (cons (opg rfl rfl (Ev.fieldAddr (o := 1) (.t rfl) (by kernel_rfl)) ?_)))
  refine cons (opg rfl rfl (Ev.load (xv := b.den) ty53 (.g rfl id) (ptsVar (by repeat first | exact mH | apply mT | apply mA) SBucket.l_den)) ?_)
  refine cons (opg rfl rfl (Ev.lss_u64 (.g rfl id) (.c (v := U64 1) rfl)) ?_)
  refine cons (opv (Ev.pickO (.t rfl) (.c (v := .bool true) rfl) (fun {_} h => by cases h; rfl) ⟨_, rfl⟩ (by intro h1 h; first | (rw [h] <;> rfl) | (rw [h1, h] <;> rfl) | (rw [h, h1] <;> rfl) | simp_all)) ?_)
  refine cons (opv (Ev.move (.t rfl)) (cons (opg rfl rfl (Ev.fieldAddr (o := 1) (.t rfl) (by kernel_rfl)) ?_)))
  refine cons (opg rfl rfl (Ev.load (xv := b.den) ty53 (.g rfl id) (ptsVar (by repeat first | exact mH | apply mT | apply mA) SBucket.l_den)) ?_)
  refine cons (opg rfl rfl (Ev.gtr_u64 (.g rfl id) (.c (v := U64 65536) rfl)) ?_)
  refine cons (opv (Ev.pickO (.t rfl) (.c (v := .bool true) rfl) (fun {_} h => by cases h; rfl) ⟨_, rfl⟩ (by intro h1 h; first | (rw [h] <;> rfl) | (rw [h1, h] <;> rfl) | (rw [h, h1] <;> rfl) | simp_all)) ?_)
  refine cons (opv (Ev.move (.t rfl)) (cons (opg rfl rfl (Ev.fieldAddr (o := 2) (.t rfl) (by kernel_rfl)) ?_)))
  refine cons (opg rfl rfl (Ev.load (xv := b.burst) ty53 (.g rfl id) (ptsVar (by repeat first | exact mH | apply mT | apply mA) SBucket.l_burst)) ?_)
  refine cons (opg rfl rfl (Ev.lss_u64 (.g rfl id) (.c (v := U64 1) rfl)) ?_)
  refine cons (opv (Ev.pickO (.t rfl) (.c (v := .bool true) rfl) (fun {_} h => by cases h; rfl) ⟨_, rfl⟩ (by intro h1 h; first | (rw [h] <;> rfl) | (rw [h1, h] <;> rfl) | (rw [h, h1] <;> rfl) | simp_all)) ?_)
  refine cons (opv (Ev.move (.t rfl)) (cons (opg rfl rfl (Ev.fieldAddr (o := 2) (.t rfl) (by kernel_rfl)) ?_)))
  refine cons (opg rfl rfl (Ev.load (xv := b.burst) ty53 (.g rfl id) (ptsVar (by repeat first | exact mH | apply mT | apply mA) SBucket.l_burst)) ?_)
  refine cons (opg rfl rfl (Ev.gtr_u64 (.g rfl id) (.c (v := U64 1048576) rfl)) ?_)
  refine cons (opv (Ev.pickO (.t rfl) (.c (v := .bool true) rfl) (fun {_} h => by cases h; rfl) ⟨_, rfl⟩ (by intro h1 h; first | (rw [h] <;> rfl) | (rw [h1, h] <;> rfl) | (rw [h, h1] <;> rfl) | simp_all)) ?_)
  refine nil (pN ?_)
  first | refine condD rfl (fun h0 => ?_) (fun h0 => ?_) | refine cond rfl (fun h0 => ?_) (fun h0 => ?_)
  · try simp only [nb] at h0
    refine seq (region (cons (opv (Ev.assign (.c (v := I 2) rfl)) ?_)))
    refine nil (pN (ret (pR (done rfl (.tmp rfl .nil) (retE ?_)))))
    have e : ckB b = 2 := by unfold ckB; rw [if_pos (by simpa [or_assoc] using h0)]
    rw [e]; rfl
  · try simp only [nb] at h0
    refine skip (pN (seq (region (cons (opv (Ev.assign (.c (v := I 0) rfl)) ?_)))))
    refine nil (pN (ret (done rfl (.tmp rfl .nil) (retE ?_))))
    have e : ckB b = 0 := by unfold ckB; rw [if_neg (by simpa [or_assoc, and_assoc] using h0)]
    rw [e]; rfl

theorem rbucket_ok (b : SBucket) (w : World) : Calls Tryz.prog 158 #[eBucket.val b] w (RetV w (I (ckB b))) := by
  refine enter0 31 Tryz.func158 rfl rfl (Nat.le_of_ble_eq_true rfl) ?_
  refine seq (region (cons (box (E := eBucket) (.t rfl) (fun b1 => ?_))))
  refine cons (opv (Ev.assign (.c (v := I 0) rfl)) ?_)
  refine nil (pN (seq (seq (region (cons (opv (Ev.fieldAddr (o := 0) (.t rfl) (by kernel_rfl)) ?_))))))
  refine cons (opv (Ev.load (xv := b.num) ty53 (.t rfl) (ptsVar (by repeat first | exact mH | apply mT | apply mA) SBucket.l_num)) ?_)
  refine cons (opv (Ev.lss_u64 (.t rfl) (.c (v := U64 1) rfl)) ?_)
  refine cons (opv (Ev.move (.t rfl)) (cons (opg rfl rfl (Ev.fieldAddr (o := 0) (.t rfl) (by kernel_rfl)) ?_)))
  refine cons (opg rfl rfl (Ev.load (xv := b.num) ty53 (.g rfl id) (ptsVar (by repeat first | exact mH | apply mT | apply mA) SBucket.l_num)) ?_)
  refine cons (opg rfl rfl (Ev.gtr_u64 (.g rfl id) (.c (v := U64 65536) rfl)) ?_)
  refine cons (opv (Ev.pickO (.t rfl) (.c (v := .bool true) rfl) (fun {_} h => by cases h; rfl) ⟨_, rfl⟩ (by intro h1 h; first | (rw [h] <;> rfl) | (rw [h1, h] <;> rfl) | (rw [h, h1] <;> rfl) | simp_all)) ?_)
  refine cons (opv (Ev.move (.t rfl)) (cons (opg rfl rfl (Ev.fieldAddr (o := 1) (.t rfl) (by kernel_rfl)) ?_)))
  refine cons (opg rfl rfl (Ev.load (xv := b.den) ty53 (.g rfl id) (ptsVar (by repeat first | exact mH | apply mT | apply mA) SBucket.l_den)) ?_)
  refine cons (opg rfl rfl (Ev.lss_u64 (.g rfl id) (.c (v := U64 1) rfl)) ?_)
  refine cons (opv (Ev.pickO (.t rfl) (.c (v := .bool true) rfl) (fun {_} h => by cases h; rfl) ⟨_, rfl⟩ (by intro h1 h; first | (rw [h] <;> rfl) | (rw [h1, h] <;> rfl) | (rw [h, h1] <;> rfl) | simp_all)) ?_)
  refine cons (opv (Ev.move (.t rfl)) (cons (opg rfl rfl (Ev.fieldAddr (o := 1) (.t rfl) (by kernel_rfl)) ?_)))
  refine cons (opg rfl rfl (Ev.load (xv := b.den) ty53 (.g rfl id) (ptsVar (by repeat first | exact mH | apply mT | apply mA) SBucket.l_den)) ?_)
  refine cons (opg rfl rfl (Ev.gtr_u64 (.g rfl id) (.c (v := U64 65536) rfl)) ?_)
  refine cons (opv (Ev.pickO (.t rfl) (.c (v := .bool true) rfl) (fun {_} h => by cases h; rfl) ⟨_, rfl⟩ (by intro h1 h; first | (rw [h] <;> rfl) | (rw [h1, h] <;> rfl) | (rw [h, h1] <;> rfl) | simp_all)) ?_)
  refine cons (opv (Ev.move (.t rfl)) (cons (opg rfl rfl (Ev.fieldAddr (o := 2) (.t rfl) (by kernel_rfl)) ?_)))
  refine cons (opg rfl rfl (Ev.load (xv := b.burst) ty53 (.g rfl id) (ptsVar (by repeat first | exact mH | apply mT | apply mA) SBucket.l_burst)) ?_)
  refine cons (opg rfl rfl (Ev.lss_u64 (.g rfl id) (.c (v := U64 1) rfl)) ?_)
  refine cons (opv (Ev.pickO (.t rfl) (.c (v := .bool true) rfl) (fun {_} h => by cases h; rfl) ⟨_, rfl⟩ (by intro h1 h; first | (rw [h] <;> rfl) | (rw [h1, h] <;> rfl) | (rw [h, h1] <;> rfl) | simp_all)) ?_)
  refine cons (opv (Ev.move (.t rfl)) (cons (opg rfl rfl (Ev.fieldAddr (o := 2) (.t rfl) (by kernel_rfl)) ?_)))
  refine cons (opg rfl rfl (Ev.load (xv := b.burst) ty53 (.g rfl id) (ptsVar (by repeat first | exact mH | apply mT | apply mA) SBucket.l_burst)) ?_)
  refine cons (opg rfl rfl (Ev.gtr_u64 (.g rfl id) (.c (v := U64 1048576) rfl)) ?_)
  refine cons (opv (Ev.pickO (.t rfl) (.c (v := .bool true) rfl) (fun {_} h => by cases h; rfl) ⟨_, rfl⟩ (by intro h1 h; first | (rw [h] <;> rfl) | (rw [h1, h] <;> rfl) | (rw [h, h1] <;> rfl) | simp_all)) ?_)
  refine nil (pN ?_)
  first | refine condD rfl (fun h0 => ?_) (fun h0 => ?_) | refine cond rfl (fun h0 => ?_) (fun h0 => ?_)
  · try simp only [nb] at h0
    refine seq (region (cons (opv (Ev.assign (.c (v := I 2) rfl)) ?_)))
    refine nil (pN (ret (pR (done rfl (.tmp rfl .nil) (retE ?_)))))
    have e : ckB b = 2 := by unfold ckB; rw [if_pos (by simpa [or_assoc] using h0)]
    rw [e]; rfl
  · try simp only [nb] at h0
    refine skip (pN (seq (region (cons (opv (Ev.assign (.c (v := I 0) rfl)) ?_)))))
    refine nil (pN (ret (done rfl (.tmp rfl .nil) (retE ?_))))
    have e : ckB b = 0 := by unfold ckB; rw [if_neg (by simpa [or_assoc, and_assoc] using h0)]
    rw [e]; rfl
end Go.Proofs.YtnoobdijbpmjkaaGreat
