/- rule -/
import Derived.Test.YtkmdhmfgbgngeaaR4
set_option linter.unusedVariables false
set_option linter.unusedSimpArgs false
namespace Go.Proofs.Ytkmdhmfgbgngeaa
open Go Go.Gx

structure SAnon5 where
  is_ : Bool
  v6 : Bool

def SAnon5.to : (Bool × Bool) → SAnon5 := fun x => ⟨x.1, x.2⟩

def SAnon5.of : SAnon5 → (Bool × Bool) := fun x => (x.is_, x.v6)

def eAnon5 : Enc SAnon5 := isoE (prodE bE bE) SAnon5.to SAnon5.of

def SAnon5.l_is_ : Lens eAnon5 bE 0 := lIso _ SAnon5.to SAnon5.of (fun _ => rfl) (lFst bE bE)

@[simp] theorem SAnon5.get_is_ (x : SAnon5) : SAnon5.l_is_.get x = x.is_ := rfl

@[simp] theorem SAnon5.set_is_ (x : SAnon5) (y : Bool) : SAnon5.l_is_.set x y = { x with is_ := y } := rfl

def SAnon5.l_v6 : Lens eAnon5 bE 1 := lIso _ SAnon5.to SAnon5.of (fun _ => rfl) (Lens.comp (lSnd bE bE) (Lens.id bE))

@[simp] theorem SAnon5.get_v6 (x : SAnon5) : SAnon5.l_v6.get x = x.v6 := rfl

@[simp] theorem SAnon5.set_v6 (x : SAnon5) (y : Bool) : SAnon5.l_v6.set x y = { x with v6 := y } := rfl

@[simp] theorem zSpan_from : eSpan.zero.from_ = 0 := rfl
@[simp] theorem zSpan_to : eSpan.zero.to_ = 0 := rfl
/-- The kinds of addresses that can meet a match: 1 of IPv4, 2 of IPv6. -/
def kst (k : Nat) (is v6 : Bool) : Nat := bif is then (bif v6 then k &&& 2 else k &&& 1) else k
def kI (m : SMatch) : Nat := kst (kst 3 (asksB m 2) m.src.addr.v6) (asksB m 4) m.dst.addr.v6
theorem kst_le {k : Nat} (h : k ≤ 3) (a b : Bool) : kst k a b ≤ 3 := by
  have h : k = 0 ∨ k = 1 ∨ k = 2 ∨ k = 3 := by omega
  rcases h with rfl | rfl | rfl | rfl <;> cases a <;> cases b <;> decide
def everyB (s : SSpan) (is : Bool) (top : UInt16) : SSpan := bif is then s else { s with to_ := top }
def spannedB (m n : SMatch) (w : UInt8) (a b : SSpan) (top : UInt16) : Bool := !asksB m w || (decide (a.from_ ≤ (everyB b (asksB n w) top).from_) && decide ((everyB b (asksB n w) top).to_ ≤ a.to_))
def prefixedB (m n : SMatch) (w : UInt8) (a b : SPrefix) : Bool := bif !asksB m w then true else bif asksB n w then coversP a b else (decide (a.bits = 0) && decide ((kI n : Int) = (bif a.addr.v6 then 2 else 1)))
def spansR (one : Bool) (a : SSpan) (other : Bool) (b : SSpan) (top : UInt16) : Bool := !one || (decide (a.from_ ≤ (bif other then b else ⟨0, top⟩).from_) && decide ((bif other then b else ⟨0, top⟩).to_ ≤ a.to_))
def prefixesR (one : Bool) (a : SPrefix) (other : Bool) (b : SPrefix) (v6 : Bool) : Bool := !one || (decide (a.bits ≤ (bif other then b else ⟨⟨v6, Vector.replicate 16 0⟩, 0⟩).bits) && hasP a (bif other then b else ⟨⟨v6, Vector.replicate 16 0⟩, 0⟩).addr)
def k4R (m : SMatch) : Bool := bif asksB m 4 then !m.dst.addr.v6 else bif asksB m 2 then !m.src.addr.v6 else true
def k6R (m : SMatch) : Bool := bif asksB m 4 then m.dst.addr.v6 else bif asksB m 2 then m.src.addr.v6 else true

theorem z99 : (Try.prog.info? 99).bind (·.zero) = some (eAnon5.val eAnon5.zero) := by kernel_rfl

theorem ty99 : TyOK Try.prog 99 eAnon5 := TyOK.mk' (by kernel_rfl) (by kernel_rfl)

theorem kinds_ok (m : SMatch) (w : World) : Calls Try.prog 48 #[eMatch.val m] w (RetV w (I ((kI m : Nat) : Int))) := by
  refine enter0 40 Try.func48 rfl rfl (Nat.le_of_ble_eq_true rfl) ?_
  refine seq ?_
  refine region ?_
  refine cons (box (E := eMatch) (.t rfl) (fun b1 => ?_))
  refine cons (opv (Ev.assign (.c (v := I 0) rfl)) ?_)
  refine nil ?_
  refine pN ?_
  refine seq ?_
  refine region ?_
  refine cons (opv (Ev.assign (.c (v := I 3) rfl)) ?_)
  refine nil ?_
  refine pN ?_
  refine seq ?_
  refine seq ?_
  refine draw' (by kernel_rfl) ?_
  refine take 0 rfl (by kernel_rfl) (by kernel_rfl) (by kernel_rfl) (by repeat first | exact sR | exact sN | apply sC | apply sS | apply sA) (Ev.load (xv := m) ty31 (.t rfl) (ptsVar (by repeat first | exact mH | apply mT | apply mA) (Lens.id _))) ?_
  refine take 2 rfl (by kernel_rfl) (by kernel_rfl) (by kernel_rfl) (by repeat first | exact sR | exact sN | apply sC | apply sS | apply sA) (Ev.fieldAddr (o := 3) (.t rfl) (by kernel_rfl)) ?_
  refine take 3 rfl (by kernel_rfl) (by kernel_rfl) (by kernel_rfl) (by repeat first | exact sR | exact sN | apply sC | apply sS | apply sA) (Ev.fieldAddr (o := 0) (.t rfl) (by kernel_rfl)) ?_
  refine take 4 rfl (by kernel_rfl) (by kernel_rfl) (by kernel_rfl) (by repeat first | exact sR | exact sN | apply sC | apply sS | apply sA) (Ev.fieldAddr (o := 0) (.t rfl) (by kernel_rfl)) ?_
  refine take 5 rfl (by kernel_rfl) (by kernel_rfl) (by kernel_rfl) (by repeat first | exact sR | exact sN | apply sC | apply sS | apply sA) (Ev.load (xv := m.src.addr.v6) ty4 (.t rfl) (ptsVar (by repeat first | exact mH | apply mT | apply mA) (Lens.comp (Lens.comp SMatch.l_src SPrefix.l_addr) SAddr.l_v6))) ?_
  refine take 7 rfl (by kernel_rfl) (by kernel_rfl) (by kernel_rfl) (by repeat first | exact sR | exact sN | apply sC | apply sS | apply sA) (Ev.load (xv := m) ty31 (.t rfl) (ptsVar (by repeat first | exact mH | apply mT | apply mA) (Lens.id _))) ?_
  refine take 9 rfl (by kernel_rfl) (by kernel_rfl) (by kernel_rfl) (by repeat first | exact sR | exact sN | apply sC | apply sS | apply sA) (Ev.fieldAddr (o := 21) (.t rfl) (by kernel_rfl)) ?_
  refine take 10 rfl (by kernel_rfl) (by kernel_rfl) (by kernel_rfl) (by repeat first | exact sR | exact sN | apply sC | apply sS | apply sA) (Ev.fieldAddr (o := 0) (.t rfl) (by kernel_rfl)) ?_
  refine take 11 rfl (by kernel_rfl) (by kernel_rfl) (by kernel_rfl) (by repeat first | exact sR | exact sN | apply sC | apply sS | apply sA) (Ev.fieldAddr (o := 0) (.t rfl) (by kernel_rfl)) ?_
  refine take 12 rfl (by kernel_rfl) (by kernel_rfl) (by kernel_rfl) (by repeat first | exact sR | exact sN | apply sC | apply sS | apply sA) (Ev.load (xv := m.dst.addr.v6) ty4 (.t rfl) (ptsVar (by repeat first | exact mH | apply mT | apply mA) (Lens.comp (Lens.comp SMatch.l_dst SPrefix.l_addr) SAddr.l_v6))) ?_
  refine take 16 rfl (by kernel_rfl) (by kernel_rfl) (by kernel_rfl) (by repeat first | exact sR | exact sN | apply sC | apply sS | apply sA) (Ev.move (.c (v := I 0) rfl)) ?_
  refine all [1] (by kernel_rfl) (by decide) (.cons rfl ?_ .nil)
  refine (callv en34 (.cons (.t rfl) (.cons (.c (v := U8 2) rfl) .nil)) (fun w I => asks_ok _ _ w) ?_)
  refine heldN_of (by repeat first | exact sR | exact sN | apply sC | apply sS | apply sA) ?_
  refine take 6 rfl (by kernel_rfl) (by kernel_rfl) (by kernel_rfl) (by repeat first | exact sR | exact sN | apply sC | apply sS | apply sA) (Ev.buildS (fs := _) (places := [(0, 1), (1, 1)]) z99 rfl Try.underlying99 (by kernel_rfl) (.cons (.t rfl) (.cons (.t rfl) .nil)) (Fills.cons SAnon5.l_is_ rfl (Fills.cons SAnon5.l_v6 rfl Fills.nil))) ?_
  refine all [8] (by kernel_rfl) (by decide) (.cons rfl ?_ .nil)
  refine (callv en34 (.cons (.t rfl) (.cons (.c (v := U8 4) rfl) .nil)) (fun w I => asks_ok _ _ w) ?_)
  refine heldN_of (by repeat first | exact sR | exact sN | apply sC | apply sS | apply sA) ?_
  refine take 13 rfl (by kernel_rfl) (by kernel_rfl) (by kernel_rfl) (by repeat first | exact sR | exact sN | apply sC | apply sS | apply sA) (Ev.buildS (fs := _) (places := [(0, 1), (1, 1)]) z99 rfl Try.underlying99 (by kernel_rfl) (.cons (.t rfl) (.cons (.t rfl) .nil)) (Fills.cons SAnon5.l_is_ rfl (Fills.cons SAnon5.l_v6 rfl Fills.nil))) ?_
  refine all [14] (by kernel_rfl) (by decide) (.cons rfl ?_ .nil)
  refine (buildSlice (E := eAnon5) Try.underlying100 ty99 z99 (.cons (.t rfl) (.cons (.t rfl) .nil)) rfl rfl (fun v2 => ?_))
  refine heldN_of (by repeat first | exact sR | exact sN | apply sC | apply sS | apply sA) ?_
  refine all [15] (by kernel_rfl) (by decide) (.cons rfl ?_ .nil)
  refine (opv (Ev.len Try.underlying100 (.t rfl) (by first | exact isSl_own (by repeat first | exact mH | apply mT | apply mA) | exact fun w I => IsSl.keep0 (by assumption) I.keeps)) ?_)
  refine heldN_of (by repeat first | exact sR | exact sN | apply sC | apply sS | apply sA) ?_
  refine over (by kernel_rfl) ?_
  refine pN ?_
  refine block ?_
  refine loop (X := Int × Nat) (fun x : Int × Nat => (0 ≤ x.1 ∧ x.1 ≤ 2) ∧ (x.2 ≤ 3) ∧ (x.2 = ([(⟨asksB m 2, m.src.addr.v6⟩ : SAnon5), ⟨asksB m 4, m.dst.addr.v6⟩].take x.1.toNat).foldl (fun q z => kst q z.is_ z.v6) 3)) (fun x : Int × Nat => [(3, true, I ((x.2 : Nat) : Int)), (20, true, v2.v), (21, true, I 2), (22, true, I x.1)]) (fun x : Int × Nat => [OwnS v2.v eAnon5 [(⟨asksB m 2, m.src.addr.v6⟩ : SAnon5), ⟨asksB m 4, m.dst.addr.v6⟩] 99]) (fun x : Int × Nat => (2 - x.1).toNat) (0, 3) ⟨?_, ?_, ?_⟩ (by repeat first | exact Sub.nil | refine Sub.cons rfl ?_) (by repeat first | exact sR | exact sN | apply sC | apply sS | apply sA) (fun x hx => ?_)
  · omega
  · omega
  · rfl
  obtain ⟨i, k⟩ := x
  obtain ⟨hi, hk, hkk⟩ : (0 ≤ i ∧ i ≤ 2) ∧ (k ≤ 3) ∧ (k = ([(⟨asksB m 2, m.src.addr.v6⟩ : SAnon5), ⟨asksB m 4, m.dst.addr.v6⟩].take i.toNat).foldl (fun q z => kst q z.is_ z.v6) 3) := hx
  show Sat _ _ [(3, true, I ((k : Nat) : Int)), (20, true, v2.v), (21, true, I 2), (22, true, I i)] [OwnS v2.v eAnon5 [(⟨asksB m 2, m.src.addr.v6⟩ : SAnon5), ⟨asksB m 4, m.dst.addr.v6⟩] 99]
  refine seq ?_
  refine region ?_
  refine cons (opv (Ev.lss_i (.t rfl) (.t rfl)) ?_)
  refine nil ?_
  refine pN ?_
  refine seq ?_
  first | refine condD rfl (fun hlt => ?_) (fun hge => ?_) | refine cond rfl (fun hlt => ?_) (fun hge => ?_)
  · try simp only [Bool.and_eq_true, Bool.or_eq_true, Bool.or_eq_false_iff, Bool.and_eq_false_iff, Bool.not_eq_true', Bool.not_eq_false', decide_eq_true_eq, decide_eq_false_iff_not, Decidable.not_not] at hlt
    refine skip ?_
    refine pN ?_
    refine seq ?_
    refine block ?_
    refine seq ?_
    refine region ?_
    refine cons (opv (Ev.indexAddr Try.underlying100 ty99 (.t rfl) (.t rfl) (by first | exact isSl_own (by repeat first | exact mH | apply mT | apply mA) | exact fun w I => IsSl.keep0 (by assumption) I.keeps) (fun _ => by simp; omega)) ?_)
    refine cons (opv (Ev.loadS0 ty99 (.t rfl) (by first | exact isSl_own (by repeat first | exact mH | apply mT | apply mA) | exact fun w I => IsSl.keep0 (by assumption) I.keeps) (fun _ => by simp; omega)) ?_)
    refine cons (alloc z99 (fun b3 => ?_))
    refine cons (storeV ty99 (Lens.id _) (.t rfl) (.t rfl) (by repeat first | exact Upd.head | apply Upd.tail | apply Upd.right) ?_)
    refine nil ?_
    refine pN ?_
    refine seq ?_
    refine region ?_
    refine cons (opv (Ev.fieldAddr (o := 0) (.t rfl) (by kernel_rfl)) ?_)
    refine cons (opv (Ev.load ty4 (.t rfl) (ptsVar (by repeat first | exact mH | apply mT | apply mA) SAnon5.l_is_)) ?_)
    refine cons (opv (Ev.move (.t rfl)) ?_)
    refine cons (opg rfl rfl (Ev.fieldAddr (o := 1) (.t rfl) (by kernel_rfl)) ?_)
    refine cons (opg rfl rfl (Ev.load ty4 (.g rfl id) (ptsVar (by repeat first | exact mH | apply mT | apply mA) SAnon5.l_v6)) ?_)
    refine cons (opv (Ev.pickA (.t rfl) (fun {_} h => by cases h; rfl) ⟨_, rfl⟩ (by intro h1 h; first | (rw [h] <;> rfl) | (rw [h1, h] <;> rfl) | (rw [h, h1] <;> rfl) | simp_all) (.c (v := .bool false) rfl)) ?_)
    refine nil ?_
    refine pN ?_
    first | refine condD rfl (fun h1 => ?_) (fun h1 => ?_) | refine cond rfl (fun h1 => ?_) (fun h1 => ?_)
    · have hk2 : k &&& 2 = kst k ([(⟨asksB m 2, m.src.addr.v6⟩ : SAnon5), ⟨asksB m 4, m.dst.addr.v6⟩].getD i.toNat eAnon5.zero).is_ ([(⟨asksB m 2, m.src.addr.v6⟩ : SAnon5), ⟨asksB m 4, m.dst.addr.v6⟩].getD i.toNat eAnon5.zero).v6 := by unfold kst; simp_all
      refine region ?_
      refine cons (opv (Ev.move (.t rfl)) ?_)
      refine cons (opv (Ev.bits_i (m := k) (n := 2) (r := k &&& 2) (.inl rfl) (.t rfl) (.c rfl) (fun _ => by omega) (fun _ => by decide) rfl) ?_)
      refine cons (opv (Ev.assign (.t rfl)) ?_)
      refine nil ?_
      refine bN ?_
      refine pN ?_
      refine region ?_
      refine cons (opv (Ev.add_i (.t rfl) (.c (v := I 1) rfl) (fun _ => by omega)) ?_)
      refine cons (opv (Ev.move (.t rfl)) ?_)
      refine nil ?_
      refine pN ?_
      refine next (X := Int × Nat) (i + 1, _) ⟨?_, ?_, ?_⟩ ?_ (by repeat first | exact Sub.nil | refine Sub.cons rfl ?_) (by repeat first | exact sR | exact sN | apply sC | apply sS | apply sA)
      · try dsimp only
        omega
      · try dsimp only
        rw [hk2]; exact kst_le hk _ _
      · try dsimp only
        rw [take_snoc _ i hi.1 (by simp; omega) eAnon5.zero, List.foldl_append, ← hkk]; exact hk2
      · try dsimp only
        omega
    · refine seq ?_
      refine region ?_
      refine cons (opv (Ev.fieldAddr (o := 0) (.t rfl) (by kernel_rfl)) ?_)
      refine cons (opv (Ev.load ty4 (.t rfl) (ptsVar (by repeat first | exact mH | apply mT | apply mA) SAnon5.l_is_)) ?_)
      refine nil ?_
      refine pN ?_
      first | refine condD rfl (fun h2 => ?_) (fun h2 => ?_) | refine cond rfl (fun h2 => ?_) (fun h2 => ?_)
      · have hk2 : k &&& 1 = kst k ([(⟨asksB m 2, m.src.addr.v6⟩ : SAnon5), ⟨asksB m 4, m.dst.addr.v6⟩].getD i.toNat eAnon5.zero).is_ ([(⟨asksB m 2, m.src.addr.v6⟩ : SAnon5), ⟨asksB m 4, m.dst.addr.v6⟩].getD i.toNat eAnon5.zero).v6 := by unfold kst; simp_all
        refine region ?_
        refine cons (opv (Ev.move (.t rfl)) ?_)
        refine cons (opv (Ev.bits_i (m := k) (n := 1) (r := k &&& 1) (.inl rfl) (.t rfl) (.c rfl) (fun _ => by omega) (fun _ => by decide) rfl) ?_)
        refine cons (opv (Ev.assign (.t rfl)) ?_)
        refine nil ?_
        refine bN ?_
        refine pN ?_
        refine region ?_
        refine cons (opv (Ev.add_i (.t rfl) (.c (v := I 1) rfl) (fun _ => by omega)) ?_)
        refine cons (opv (Ev.move (.t rfl)) ?_)
        refine nil ?_
        refine pN ?_
        refine next (X := Int × Nat) (i + 1, _) ⟨?_, ?_, ?_⟩ ?_ (by repeat first | exact Sub.nil | refine Sub.cons rfl ?_) (by repeat first | exact sR | exact sN | apply sC | apply sS | apply sA)
        · try dsimp only
          omega
        · try dsimp only
          rw [hk2]; exact kst_le hk _ _
        · try dsimp only
          rw [take_snoc _ i hi.1 (by simp; omega) eAnon5.zero, List.foldl_append, ← hkk]; exact hk2
        · try dsimp only
          omega
      · have hk2 : k = kst k ([(⟨asksB m 2, m.src.addr.v6⟩ : SAnon5), ⟨asksB m 4, m.dst.addr.v6⟩].getD i.toNat eAnon5.zero).is_ ([(⟨asksB m 2, m.src.addr.v6⟩ : SAnon5), ⟨asksB m 4, m.dst.addr.v6⟩].getD i.toNat eAnon5.zero).v6 := by unfold kst; simp_all
        refine skip ?_
        refine bN ?_
        refine pN ?_
        refine region ?_
        refine cons (opv (Ev.add_i (.t rfl) (.c (v := I 1) rfl) (fun _ => by omega)) ?_)
        refine cons (opv (Ev.move (.t rfl)) ?_)
        refine nil ?_
        refine pN ?_
        refine next (X := Int × Nat) (i + 1, _) ⟨?_, ?_, ?_⟩ ?_ (by repeat first | exact Sub.nil | refine Sub.cons rfl ?_) (by repeat first | exact sR | exact sN | apply sC | apply sS | apply sA)
        · try dsimp only
          omega
        · try dsimp only
          rw [hk2]; exact kst_le hk _ _
        · try dsimp only
          rw [take_snoc _ i hi.1 (by simp; omega) eAnon5.zero, List.foldl_append, ← hkk]; exact hk2
        · try dsimp only
          omega
  · try simp only [Bool.and_eq_true, Bool.or_eq_true, Bool.or_eq_false_iff, Bool.and_eq_false_iff, Bool.not_eq_true', Bool.not_eq_false', decide_eq_true_eq, decide_eq_false_iff_not, Decidable.not_not] at hge
    refine exit ?_
    refine pX ?_
    refine pX ?_
    refine bX ?_
    refine pN ?_
    refine seq ?_
    refine region ?_
    refine cons (opv (Ev.move (.t rfl)) ?_)
    refine cons (opv (Ev.assign (.t rfl)) ?_)
    refine nil ?_
    refine pN ?_
    refine ret ?_
    refine done rfl (.tmp rfl .nil) (retE ?_)
    have e : i.toNat = 2 := by omega
    rw [hkk, e]; rfl

theorem every_ok (s : SSpan) (is : Bool) (top : UInt16) (w : World) : Calls Try.prog 67 #[eSpan.val s, .bool is, U16 top] w (RetV w (eSpan.val (everyB s is top))) := by
  refine enter0 12 Try.func67 rfl rfl (Nat.le_of_ble_eq_true rfl) ?_
  refine seq ?_
  refine region ?_
  refine cons (box (E := eSpan) (.t rfl) (fun b1 => ?_))
  refine cons (alloc z24 (fun b2 => ?_))
  refine nil ?_
  refine pN ?_
  refine seq ?_
  refine seq ?_
  refine region ?_
  refine cons (opv (Ev.move (.t rfl)) ?_)
  refine cons (opv (Ev.not (.t rfl)) ?_)
  refine nil ?_
  refine pN ?_
  first | refine condD rfl (fun h0 => ?_) (fun h0 => ?_) | refine cond rfl (fun h0 => ?_) (fun h0 => ?_)
  · try simp only [Bool.and_eq_true, Bool.or_eq_true, Bool.or_eq_false_iff, Bool.and_eq_false_iff, Bool.not_eq_true', Bool.not_eq_false', decide_eq_true_eq, decide_eq_false_iff_not, Decidable.not_not] at h0
    refine region ?_
    refine cons (opv (Ev.move (.t rfl)) ?_)
    refine cons (opv (Ev.fieldAddr (o := 1) (.t rfl) (by kernel_rfl)) ?_)
    refine cons (storeV ty22 SSpan.l_to_ (.t rfl) (.t rfl) (by repeat first | exact Upd.head | apply Upd.tail | apply Upd.right) ?_)
    refine nil ?_
    refine pN ?_
    refine seq ?_
    refine region ?_
    refine cons (opv (Ev.load ty24 (.t rfl) (ptsVar (by repeat first | exact mH | apply mT | apply mA) (Lens.id _))) ?_)
    refine cons (storeV ty24 (Lens.id _) (.t rfl) (.t rfl) (by repeat first | exact Upd.head | apply Upd.tail | apply Upd.right) ?_)
    refine nil ?_
    refine pN ?_
    refine ret ?_
    refine done rfl (.cell rfl (fun w I => run_loadVar_pts ty24 (ptsVar (by repeat first | exact mH | apply mT | apply mA) (Lens.id _) w I)) .nil) (retE ?_)
    unfold everyB
    cases is <;> first | rfl | simp_all
  · try simp only [Bool.and_eq_true, Bool.or_eq_true, Bool.or_eq_false_iff, Bool.and_eq_false_iff, Bool.not_eq_true', Bool.not_eq_false', decide_eq_true_eq, decide_eq_false_iff_not, Decidable.not_not] at h0
    refine skip ?_
    refine pN ?_
    refine seq ?_
    refine region ?_
    refine cons (opv (Ev.load ty24 (.t rfl) (ptsVar (by repeat first | exact mH | apply mT | apply mA) (Lens.id _))) ?_)
    refine cons (storeV ty24 (Lens.id _) (.t rfl) (.t rfl) (by repeat first | exact Upd.head | apply Upd.tail | apply Upd.right) ?_)
    refine nil ?_
    refine pN ?_
    refine ret ?_
    refine done rfl (.cell rfl (fun w I => run_loadVar_pts ty24 (ptsVar (by repeat first | exact mH | apply mT | apply mA) (Lens.id _) w I)) .nil) (retE ?_)
    unfold everyB
    cases is <;> first | rfl | simp_all

theorem en67 : Enters Try.prog 67 := Enters.mk' (by kernel_rfl)

theorem spanned_ok (m n : SMatch) (q : UInt8) (a b : SSpan) (top : UInt16) (w : World) : Calls Try.prog 40 #[eMatch.val m, eMatch.val n, U8 q, eSpan.val a, eSpan.val b, U16 top] w (RetV w (.bool (spannedB m n q a b top))) := by
  refine enter0 37 Try.func40 rfl rfl (Nat.le_of_ble_eq_true rfl) ?_
  refine seq ?_
  refine region ?_
  refine cons (box (E := eMatch) (.t rfl) (fun b1 => ?_))
  refine cons (box (E := eMatch) (.t rfl) (fun b2 => ?_))
  refine cons (box (E := eSpan) (.t rfl) (fun b3 => ?_))
  refine cons (box (E := eSpan) (.t rfl) (fun b4 => ?_))
  refine cons (opv (Ev.assign (.c (v := .bool false) rfl)) ?_)
  refine nil ?_
  refine pN ?_
  refine seq ?_
  refine drawS 10 rfl (by repeat first | exact Rem.head | apply Rem.tail) (by kernel_rfl) ?_
  refine take 1 rfl (by kernel_rfl) (by kernel_rfl) (by kernel_rfl) (by repeat first | exact sR | exact sN | apply sC | apply sS | apply sA) (Ev.load (xv := n) ty31 (.t rfl) (ptsVar (by repeat first | exact mH | apply mT | apply mA) (Lens.id _))) ?_
  refine take 2 rfl (by kernel_rfl) (by kernel_rfl) (by kernel_rfl) (by repeat first | exact sR | exact sN | apply sC | apply sS | apply sA) (Ev.move (.t rfl)) ?_
  refine take 4 rfl (by kernel_rfl) (by kernel_rfl) (by kernel_rfl) (by repeat first | exact sR | exact sN | apply sC | apply sS | apply sA) (Ev.move (.t rfl)) ?_
  refine all [0, 3] (by kernel_rfl) (by decide) (.cons rfl ?_ (.cons rfl ?_ .nil))
  · refine (opv (Ev.load ty24 (.t rfl) (ptsVar (by repeat first | exact mH | apply mT | apply mA) (Lens.id _))) ?_)
    refine heldN_of (by repeat first | exact sR | exact sN | apply sC | apply sS | apply sA) ?_
    refine all [3] (by kernel_rfl) (by decide) (.cons rfl ?_ .nil)
    refine (callv en34 (.cons (.t rfl) (.cons (.t rfl) .nil)) (fun w I => asks_ok _ _ w) ?_)
    refine heldN_of (by repeat first | exact sR | exact sN | apply sC | apply sS | apply sA) ?_
    refine all [5] (by kernel_rfl) (by decide) (.cons rfl ?_ .nil)
    refine (callv en67 (.cons (.t rfl) (.cons (.t rfl) (.cons (.t rfl) .nil))) (fun w I => every_ok _ _ _ w) ?_)
    refine heldN_of (by repeat first | exact sR | exact sN | apply sC | apply sS | apply sA) ?_
    refine all [6] (by kernel_rfl) (by decide) (.cons rfl ?_ .nil)
    refine (storeV ty24 (Lens.id _) (.t rfl) (.t rfl) (by repeat first | exact Upd.head | apply Upd.tail | apply Upd.right) ?_)
    refine heldN_of (by repeat first | exact sR | exact sN | apply sC | apply sS | apply sA) ?_
    refine over (by kernel_rfl) ?_
    refine pN ?_
    refine seq ?_
    refine region ?_
    refine cons (opv (Ev.load (xv := m) ty31 (.t rfl) (ptsVar (by repeat first | exact mH | apply mT | apply mA) (Lens.id _))) ?_)
    refine cons (opv (Ev.move (.t rfl)) ?_)
    refine cons (callv en34 (.cons (.t rfl) (.cons (.t rfl) .nil)) (fun w I => asks_ok _ _ w) ?_)
    refine cons (opv (Ev.not (.t rfl)) ?_)
    refine cons (opv (Ev.move (.t rfl)) ?_)
    refine cons (opg rfl rfl (Ev.fieldAddr (o := 0) (.t rfl) (by kernel_rfl)) ?_)
    refine cons (opg rfl rfl (Ev.load (xv := a.from_) ty22 (.g rfl id) (ptsVar (by repeat first | exact mH | apply mT | apply mA) SSpan.l_from_)) ?_)
    refine cons (opg rfl rfl (Ev.fieldAddr (o := 0) (.t rfl) (by kernel_rfl)) ?_)
    refine cons (opg rfl rfl (Ev.load ty22 (.g rfl id) (ptsVar (by repeat first | exact mH | apply mT | apply mA) SSpan.l_from_)) ?_)
    refine cons (opg rfl rfl (Ev.leq_u16 (.g rfl id) (.g rfl id)) ?_)
    refine cons (opg rfl rfl (Ev.move (.g rfl id)) ?_)
    refine cons (opg rfl rfl (Ev.fieldAddr (o := 1) (.t rfl) (by kernel_rfl)) ?_)
    refine cons (opg rfl rfl (Ev.load ty22 (.g rfl id) (ptsVar (by repeat first | exact mH | apply mT | apply mA) SSpan.l_to_)) ?_)
    refine cons (opg rfl rfl (Ev.fieldAddr (o := 1) (.t rfl) (by kernel_rfl)) ?_)
    refine cons (opg rfl rfl (Ev.load (xv := a.to_) ty22 (.g rfl id) (ptsVar (by repeat first | exact mH | apply mT | apply mA) SSpan.l_to_)) ?_)
    refine cons (opg rfl rfl (Ev.leq_u16 (.g rfl id) (.g rfl id)) ?_)
    refine cons (opg rfl rfl (Ev.pickA (.g rfl id) (fun {_} h => by cases h; rfl) ⟨_, rfl⟩ (by intro h1 h; first | (rw [h] <;> rfl) | (rw [h1, h] <;> rfl) | (rw [h, h1] <;> rfl) | simp_all) (.c (v := .bool false) rfl)) ?_)
    refine cons (opv (Ev.pickO (.t rfl) (.c (v := .bool true) rfl) (fun {_} h => by cases h; rfl) ⟨_, rfl⟩ (by intro h1 h; first | (rw [h] <;> rfl) | (rw [h1, h] <;> rfl) | (rw [h, h1] <;> rfl) | simp_all)) ?_)
    refine cons (opv (Ev.assign (.t rfl)) ?_)
    refine nil ?_
    refine pN ?_
    refine ret ?_
    refine done rfl (.tmp rfl .nil) (retE ?_)
    rfl
  · refine (callv en34 (.cons (.t rfl) (.cons (.t rfl) .nil)) (fun w I => asks_ok _ _ w) ?_)
    refine heldN_of (by repeat first | exact sR | exact sN | apply sC | apply sS | apply sA) ?_
    refine all [0] (by kernel_rfl) (by decide) (.cons rfl ?_ .nil)
    refine (opv (Ev.load ty24 (.t rfl) (ptsVar (by repeat first | exact mH | apply mT | apply mA) (Lens.id _))) ?_)
    refine heldN_of (by repeat first | exact sR | exact sN | apply sC | apply sS | apply sA) ?_
    refine all [5] (by kernel_rfl) (by decide) (.cons rfl ?_ .nil)
    refine (callv en67 (.cons (.t rfl) (.cons (.t rfl) (.cons (.t rfl) .nil))) (fun w I => every_ok _ _ _ w) ?_)
    refine heldN_of (by repeat first | exact sR | exact sN | apply sC | apply sS | apply sA) ?_
    refine all [6] (by kernel_rfl) (by decide) (.cons rfl ?_ .nil)
    refine (storeV ty24 (Lens.id _) (.t rfl) (.t rfl) (by repeat first | exact Upd.head | apply Upd.tail | apply Upd.right) ?_)
    refine heldN_of (by repeat first | exact sR | exact sN | apply sC | apply sS | apply sA) ?_
    refine over (by kernel_rfl) ?_
    refine pN ?_
    refine seq ?_
    refine region ?_
    refine cons (opv (Ev.load (xv := m) ty31 (.t rfl) (ptsVar (by repeat first | exact mH | apply mT | apply mA) (Lens.id _))) ?_)
    refine cons (opv (Ev.move (.t rfl)) ?_)
    refine cons (callv en34 (.cons (.t rfl) (.cons (.t rfl) .nil)) (fun w I => asks_ok _ _ w) ?_)
    refine cons (opv (Ev.not (.t rfl)) ?_)
    refine cons (opv (Ev.move (.t rfl)) ?_)
    refine cons (opg rfl rfl (Ev.fieldAddr (o := 0) (.t rfl) (by kernel_rfl)) ?_)
    refine cons (opg rfl rfl (Ev.load (xv := a.from_) ty22 (.g rfl id) (ptsVar (by repeat first | exact mH | apply mT | apply mA) SSpan.l_from_)) ?_)
    refine cons (opg rfl rfl (Ev.fieldAddr (o := 0) (.t rfl) (by kernel_rfl)) ?_)
    refine cons (opg rfl rfl (Ev.load ty22 (.g rfl id) (ptsVar (by repeat first | exact mH | apply mT | apply mA) SSpan.l_from_)) ?_)
    refine cons (opg rfl rfl (Ev.leq_u16 (.g rfl id) (.g rfl id)) ?_)
    refine cons (opg rfl rfl (Ev.move (.g rfl id)) ?_)
    refine cons (opg rfl rfl (Ev.fieldAddr (o := 1) (.t rfl) (by kernel_rfl)) ?_)
    refine cons (opg rfl rfl (Ev.load ty22 (.g rfl id) (ptsVar (by repeat first | exact mH | apply mT | apply mA) SSpan.l_to_)) ?_)
    refine cons (opg rfl rfl (Ev.fieldAddr (o := 1) (.t rfl) (by kernel_rfl)) ?_)
    refine cons (opg rfl rfl (Ev.load (xv := a.to_) ty22 (.g rfl id) (ptsVar (by repeat first | exact mH | apply mT | apply mA) SSpan.l_to_)) ?_)
    refine cons (opg rfl rfl (Ev.leq_u16 (.g rfl id) (.g rfl id)) ?_)
    refine cons (opg rfl rfl (Ev.pickA (.g rfl id) (fun {_} h => by cases h; rfl) ⟨_, rfl⟩ (by intro h1 h; first | (rw [h] <;> rfl) | (rw [h1, h] <;> rfl) | (rw [h, h1] <;> rfl) | simp_all) (.c (v := .bool false) rfl)) ?_)
    refine cons (opv (Ev.pickO (.t rfl) (.c (v := .bool true) rfl) (fun {_} h => by cases h; rfl) ⟨_, rfl⟩ (by intro h1 h; first | (rw [h] <;> rfl) | (rw [h1, h] <;> rfl) | (rw [h, h1] <;> rfl) | simp_all)) ?_)
    refine cons (opv (Ev.assign (.t rfl)) ?_)
    refine nil ?_
    refine pN ?_
    refine ret ?_
    refine done rfl (.tmp rfl .nil) (retE ?_)
    rfl

theorem en47 : Enters Try.prog 47 := Enters.mk' (by kernel_rfl)

theorem en48 : Enters Try.prog 48 := Enters.mk' (by kernel_rfl)

theorem prefixed_ok (m n : SMatch) (q : UInt8) (a b : SPrefix) (w : World) : Calls Try.prog 41 #[eMatch.val m, eMatch.val n, U8 q, ePrefix.val a, ePrefix.val b] w (RetV w (.bool (prefixedB m n q a b))) := by
  refine enter0 36 Try.func41 rfl rfl (Nat.le_of_ble_eq_true rfl) ?_
  refine seq ?_
  refine region ?_
  refine cons (box (E := eMatch) (.t rfl) (fun b1 => ?_))
  refine cons (box (E := eMatch) (.t rfl) (fun b2 => ?_))
  refine cons (box (E := ePrefix) (.t rfl) (fun b3 => ?_))
  refine cons (box (E := ePrefix) (.t rfl) (fun b4 => ?_))
  refine cons (opv (Ev.assign (.c (v := .bool false) rfl)) ?_)
  refine nil ?_
  refine pN ?_
  refine seq ?_
  refine block ?_
  refine seq ?_
  refine region ?_
  refine cons (opv (Ev.load (xv := m) ty31 (.t rfl) (ptsVar (by repeat first | exact mH | apply mT | apply mA) (Lens.id _))) ?_)
  refine cons (opv (Ev.move (.t rfl)) ?_)
  refine cons (callv en34 (.cons (.t rfl) (.cons (.t rfl) .nil)) (fun w I => asks_ok _ _ w) ?_)
  refine cons (opv (Ev.not (.t rfl)) ?_)
  refine cons (opv (Ev.assign (.t rfl)) ?_)
  refine nil ?_
  refine pN ?_
  first | refine condD rfl (fun h0 => ?_) (fun h0 => ?_) | refine cond rfl (fun h0 => ?_) (fun h0 => ?_)
  · try simp only [Bool.and_eq_true, Bool.or_eq_true, Bool.or_eq_false_iff, Bool.and_eq_false_iff, Bool.not_eq_true', Bool.not_eq_false', decide_eq_true_eq, decide_eq_false_iff_not, Decidable.not_not] at h0
    refine seq ?_
    refine region ?_
    refine cons (opv (Ev.assign (.c (v := .bool true) rfl)) ?_)
    refine nil ?_
    refine pN ?_
    refine ret ?_
    refine bR ?_
    refine pR ?_
    refine done rfl (.tmp rfl .nil) (retE ?_)
    simp_all [prefixedB, asksB, tupV]
  · try simp only [Bool.and_eq_true, Bool.or_eq_true, Bool.or_eq_false_iff, Bool.and_eq_false_iff, Bool.not_eq_true', Bool.not_eq_false', decide_eq_true_eq, decide_eq_false_iff_not, Decidable.not_not] at h0
    refine seq ?_
    refine region ?_
    refine cons (opv (Ev.load (xv := n) ty31 (.t rfl) (ptsVar (by repeat first | exact mH | apply mT | apply mA) (Lens.id _))) ?_)
    refine cons (opv (Ev.move (.t rfl)) ?_)
    refine cons (callv en34 (.cons (.t rfl) (.cons (.t rfl) .nil)) (fun w I => asks_ok _ _ w) ?_)
    refine cons (opv (Ev.assign (.t rfl)) ?_)
    refine nil ?_
    refine pN ?_
    first | refine condD rfl (fun h1 => ?_) (fun h1 => ?_) | refine cond rfl (fun h1 => ?_) (fun h1 => ?_)
    · try simp only [Bool.and_eq_true, Bool.or_eq_true, Bool.or_eq_false_iff, Bool.and_eq_false_iff, Bool.not_eq_true', Bool.not_eq_false', decide_eq_true_eq, decide_eq_false_iff_not, Decidable.not_not] at h1
      refine seq ?_
      refine region ?_
      refine cons (opv (Ev.load (xv := a) ty29 (.t rfl) (ptsVar (by repeat first | exact mH | apply mT | apply mA) (Lens.id _))) ?_)
      refine cons (opv (Ev.load (xv := b) ty29 (.t rfl) (ptsVar (by repeat first | exact mH | apply mT | apply mA) (Lens.id _))) ?_)
      refine cons (callv en47 (.cons (.t rfl) (.cons (.t rfl) .nil)) (fun w I => coversP_ok _ _ w) ?_)
      refine cons (opv (Ev.assign (.t rfl)) ?_)
      refine nil ?_
      refine pN ?_
      refine ret ?_
      refine bR ?_
      refine pR ?_
      refine done rfl (.tmp rfl .nil) (retE ?_)
      simp_all [prefixedB, asksB, tupV]
    · try simp only [Bool.and_eq_true, Bool.or_eq_true, Bool.or_eq_false_iff, Bool.and_eq_false_iff, Bool.not_eq_true', Bool.not_eq_false', decide_eq_true_eq, decide_eq_false_iff_not, Decidable.not_not] at h1
      refine skip ?_
      refine bN ?_
      refine pN ?_
      refine seq ?_
      refine region ?_
      refine cons (opv (Ev.assign (.c (v := I 1) rfl)) ?_)
      refine nil ?_
      refine pN ?_
      refine seq ?_
      refine seq ?_
      refine region ?_
      refine cons (opv (Ev.fieldAddr (o := 0) (.t rfl) (by kernel_rfl)) ?_)
      refine cons (opv (Ev.fieldAddr (o := 0) (.t rfl) (by kernel_rfl)) ?_)
      refine cons (opv (Ev.load (xv := a.addr.v6) ty4 (.t rfl) (ptsVar (by repeat first | exact mH | apply mT | apply mA) (Lens.comp SPrefix.l_addr SAddr.l_v6))) ?_)
      refine nil ?_
      refine pN ?_
      first | refine condD rfl (fun h2 => ?_) (fun h2 => ?_) | refine cond rfl (fun h2 => ?_) (fun h2 => ?_)
      · try simp only [Bool.and_eq_true, Bool.or_eq_true, Bool.or_eq_false_iff, Bool.and_eq_false_iff, Bool.not_eq_true', Bool.not_eq_false', decide_eq_true_eq, decide_eq_false_iff_not, Decidable.not_not] at h2
        refine region ?_
        refine cons (opv (Ev.assign (.c (v := I 2) rfl)) ?_)
        refine nil ?_
        refine pN ?_
        refine seq ?_
        refine region ?_
        refine cons (opv (Ev.fieldAddr (o := 17) (.t rfl) (by kernel_rfl)) ?_)
        refine cons (opv (Ev.load (xv := a.bits) ty3 (.t rfl) (ptsVar (by repeat first | exact mH | apply mT | apply mA) SPrefix.l_bits)) ?_)
        refine cons (opv (Ev.eql_i (.t rfl) (.c (v := I 0) rfl)) ?_)
        refine cons (opv (Ev.move (.t rfl)) ?_)
        refine cons (opg rfl rfl (Ev.load (xv := n) ty31 (.t rfl) (ptsVar (by repeat first | exact mH | apply mT | apply mA) (Lens.id _))) ?_)
        refine cons (callg rfl rfl en48 (.cons (.g rfl id) .nil) (fun hg w I => kinds_ok _ w) ?_)
        refine cons (opg rfl rfl (Ev.move (.t rfl)) ?_)
        refine cons (opg rfl rfl (Ev.eql_i (.g rfl id) (.g rfl id)) ?_)
        refine cons (opv (Ev.pickA (.t rfl) (fun {_} h => by cases h; rfl) ⟨_, rfl⟩ (by intro h1 h; first | (rw [h] <;> rfl) | (rw [h1, h] <;> rfl) | (rw [h, h1] <;> rfl) | simp_all) (.c (v := .bool false) rfl)) ?_)
        refine cons (opv (Ev.assign (.t rfl)) ?_)
        refine nil ?_
        refine pN ?_
        refine ret ?_
        refine done rfl (.tmp rfl .nil) (retE ?_)
        simp_all [prefixedB, asksB, tupV]
      · try simp only [Bool.and_eq_true, Bool.or_eq_true, Bool.or_eq_false_iff, Bool.and_eq_false_iff, Bool.not_eq_true', Bool.not_eq_false', decide_eq_true_eq, decide_eq_false_iff_not, Decidable.not_not] at h2
        refine skip ?_
        refine pN ?_
        refine seq ?_
        refine region ?_
        refine cons (opv (Ev.fieldAddr (o := 17) (.t rfl) (by kernel_rfl)) ?_)
        refine cons (opv (Ev.load (xv := a.bits) ty3 (.t rfl) (ptsVar (by repeat first | exact mH | apply mT | apply mA) SPrefix.l_bits)) ?_)
        refine cons (opv (Ev.eql_i (.t rfl) (.c (v := I 0) rfl)) ?_)
        refine cons (opv (Ev.move (.t rfl)) ?_)
        refine cons (opg rfl rfl (Ev.load (xv := n) ty31 (.t rfl) (ptsVar (by repeat first | exact mH | apply mT | apply mA) (Lens.id _))) ?_)
        refine cons (callg rfl rfl en48 (.cons (.g rfl id) .nil) (fun hg w I => kinds_ok _ w) ?_)
        refine cons (opg rfl rfl (Ev.move (.t rfl)) ?_)
        refine cons (opg rfl rfl (Ev.eql_i (.g rfl id) (.g rfl id)) ?_)
        refine cons (opv (Ev.pickA (.t rfl) (fun {_} h => by cases h; rfl) ⟨_, rfl⟩ (by intro h1 h; first | (rw [h] <;> rfl) | (rw [h1, h] <;> rfl) | (rw [h, h1] <;> rfl) | simp_all) (.c (v := .bool false) rfl)) ?_)
        refine cons (opv (Ev.assign (.t rfl)) ?_)
        refine nil ?_
        refine pN ?_
        refine ret ?_
        refine done rfl (.tmp rfl .nil) (retE ?_)
        simp_all [prefixedB, asksB, tupV]

theorem rspans_ok (one : Bool) (a : SSpan) (other : Bool) (b : SSpan) (top : UInt16) (w : World) : Calls Try.prog 42 #[.bool one, eSpan.val a, .bool other, eSpan.val b, U16 top] w (RetV w (.bool (spansR one a other b top))) := by
  refine enter0 29 Try.func42 rfl rfl (Nat.le_of_ble_eq_true rfl) ?_
  refine seq ?_
  refine region ?_
  refine cons (box (E := eSpan) (.t rfl) (fun b1 => ?_))
  refine cons (box (E := eSpan) (.t rfl) (fun b2 => ?_))
  refine cons (opv (Ev.assign (.c (v := .bool false) rfl)) ?_)
  refine nil ?_
  refine pN ?_
  refine seq ?_
  refine seq ?_
  refine region ?_
  refine cons (opv (Ev.move (.t rfl)) ?_)
  refine cons (opv (Ev.not (.t rfl)) ?_)
  refine nil ?_
  refine pN ?_
  first | refine condD rfl (fun h0 => ?_) (fun h0 => ?_) | refine cond rfl (fun h0 => ?_) (fun h0 => ?_)
  · try simp only [Bool.and_eq_true, Bool.or_eq_true, Bool.or_eq_false_iff, Bool.and_eq_false_iff, Bool.not_eq_true', Bool.not_eq_false', decide_eq_true_eq, decide_eq_false_iff_not, Decidable.not_not] at h0
    refine seq ?_
    refine region ?_
    refine cons (opv (Ev.assign (.c (v := .bool true) rfl)) ?_)
    refine nil ?_
    refine pN ?_
    refine ret ?_
    refine pR ?_
    refine done rfl (.tmp rfl .nil) (retE ?_)
    cases one <;> cases other <;> simp_all [spansR, tupV] <;> rfl
  · try simp only [Bool.and_eq_true, Bool.or_eq_true, Bool.or_eq_false_iff, Bool.and_eq_false_iff, Bool.not_eq_true', Bool.not_eq_false', decide_eq_true_eq, decide_eq_false_iff_not, Decidable.not_not] at h0
    refine skip ?_
    refine pN ?_
    refine seq ?_
    refine seq ?_
    refine region ?_
    refine cons (opv (Ev.move (.t rfl)) ?_)
    refine cons (opv (Ev.not (.t rfl)) ?_)
    refine nil ?_
    refine pN ?_
    first | refine condD rfl (fun h1 => ?_) (fun h1 => ?_) | refine cond rfl (fun h1 => ?_) (fun h1 => ?_)
    · try simp only [Bool.and_eq_true, Bool.or_eq_true, Bool.or_eq_false_iff, Bool.and_eq_false_iff, Bool.not_eq_true', Bool.not_eq_false', decide_eq_true_eq, decide_eq_false_iff_not, Decidable.not_not] at h1
      refine region ?_
      refine cons (opv (Ev.move (.t rfl)) ?_)
      refine cons (opv (Ev.buildS (fs := _) (places := [(0, 1), (1, 1)]) z24 rfl Try.underlying24 (by kernel_rfl) (.cons (.t rfl) .nil) (Fills.cons SSpan.l_to_ rfl Fills.nil)) ?_)
      refine cons (storeV ty24 (Lens.id _) (.t rfl) (.t rfl) (by repeat first | exact Upd.head | apply Upd.tail | apply Upd.right) ?_)
      refine nil ?_
      refine pN ?_
      refine seq ?_
      refine region ?_
      refine cons (opv (Ev.fieldAddr (o := 0) (.t rfl) (by kernel_rfl)) ?_)
      refine cons (opv (Ev.load (xv := a.from_) ty22 (.t rfl) (ptsVar (by repeat first | exact mH | apply mT | apply mA) SSpan.l_from_)) ?_)
      refine cons (opv (Ev.fieldAddr (o := 0) (.t rfl) (by kernel_rfl)) ?_)
      refine cons (opv (Ev.load ty22 (.t rfl) (ptsVar (by repeat first | exact mH | apply mT | apply mA) SSpan.l_from_)) ?_)
      refine cons (opv (Ev.leq_u16 (.t rfl) (.t rfl)) ?_)
      refine cons (opv (Ev.move (.t rfl)) ?_)
      refine cons (opg rfl rfl (Ev.fieldAddr (o := 1) (.t rfl) (by kernel_rfl)) ?_)
      refine cons (opg rfl rfl (Ev.load ty22 (.g rfl id) (ptsVar (by repeat first | exact mH | apply mT | apply mA) SSpan.l_to_)) ?_)
      refine cons (opg rfl rfl (Ev.fieldAddr (o := 1) (.t rfl) (by kernel_rfl)) ?_)
      refine cons (opg rfl rfl (Ev.load (xv := a.to_) ty22 (.g rfl id) (ptsVar (by repeat first | exact mH | apply mT | apply mA) SSpan.l_to_)) ?_)
      refine cons (opg rfl rfl (Ev.leq_u16 (.g rfl id) (.g rfl id)) ?_)
      refine cons (opv (Ev.pickA (.t rfl) (fun {_} h => by cases h; rfl) ⟨_, rfl⟩ (by intro h1 h; first | (rw [h] <;> rfl) | (rw [h1, h] <;> rfl) | (rw [h, h1] <;> rfl) | simp_all) (.c (v := .bool false) rfl)) ?_)
      refine cons (opv (Ev.assign (.t rfl)) ?_)
      refine nil ?_
      refine pN ?_
      refine ret ?_
      refine done rfl (.tmp rfl .nil) (retE ?_)
      cases one <;> cases other <;> simp_all [spansR, tupV] <;> rfl
    · try simp only [Bool.and_eq_true, Bool.or_eq_true, Bool.or_eq_false_iff, Bool.and_eq_false_iff, Bool.not_eq_true', Bool.not_eq_false', decide_eq_true_eq, decide_eq_false_iff_not, Decidable.not_not] at h1
      refine skip ?_
      refine pN ?_
      refine seq ?_
      refine region ?_
      refine cons (opv (Ev.fieldAddr (o := 0) (.t rfl) (by kernel_rfl)) ?_)
      refine cons (opv (Ev.load (xv := a.from_) ty22 (.t rfl) (ptsVar (by repeat first | exact mH | apply mT | apply mA) SSpan.l_from_)) ?_)
      refine cons (opv (Ev.fieldAddr (o := 0) (.t rfl) (by kernel_rfl)) ?_)
      refine cons (opv (Ev.load ty22 (.t rfl) (ptsVar (by repeat first | exact mH | apply mT | apply mA) SSpan.l_from_)) ?_)
      refine cons (opv (Ev.leq_u16 (.t rfl) (.t rfl)) ?_)
      refine cons (opv (Ev.move (.t rfl)) ?_)
      refine cons (opg rfl rfl (Ev.fieldAddr (o := 1) (.t rfl) (by kernel_rfl)) ?_)
      refine cons (opg rfl rfl (Ev.load ty22 (.g rfl id) (ptsVar (by repeat first | exact mH | apply mT | apply mA) SSpan.l_to_)) ?_)
      refine cons (opg rfl rfl (Ev.fieldAddr (o := 1) (.t rfl) (by kernel_rfl)) ?_)
      refine cons (opg rfl rfl (Ev.load (xv := a.to_) ty22 (.g rfl id) (ptsVar (by repeat first | exact mH | apply mT | apply mA) SSpan.l_to_)) ?_)
      refine cons (opg rfl rfl (Ev.leq_u16 (.g rfl id) (.g rfl id)) ?_)
      refine cons (opv (Ev.pickA (.t rfl) (fun {_} h => by cases h; rfl) ⟨_, rfl⟩ (by intro h1 h; first | (rw [h] <;> rfl) | (rw [h1, h] <;> rfl) | (rw [h, h1] <;> rfl) | simp_all) (.c (v := .bool false) rfl)) ?_)
      refine cons (opv (Ev.assign (.t rfl)) ?_)
      refine nil ?_
      refine pN ?_
      refine ret ?_
      refine done rfl (.tmp rfl .nil) (retE ?_)
      cases one <;> cases other <;> simp_all [spansR, tupV] <;> rfl

theorem en39 : Enters Try.prog 39 := Enters.mk' (by kernel_rfl)

theorem rprefixes_ok (one : Bool) (a : SPrefix) (other : Bool) (b : SPrefix) (v : Bool) (w : World) : Calls Try.prog 44 #[.bool one, ePrefix.val a, .bool other, ePrefix.val b, .bool v] w (RetV w (.bool (prefixesR one a other b v))) := by
  refine enter0 29 Try.func44 rfl rfl (Nat.le_of_ble_eq_true rfl) ?_
  refine seq ?_
  refine region ?_
  refine cons (box (E := ePrefix) (.t rfl) (fun b1 => ?_))
  refine cons (box (E := ePrefix) (.t rfl) (fun b2 => ?_))
  refine cons (opv (Ev.assign (.c (v := .bool false) rfl)) ?_)
  refine nil ?_
  refine pN ?_
  refine seq ?_
  refine seq ?_
  refine region ?_
  refine cons (opv (Ev.move (.t rfl)) ?_)
  refine cons (opv (Ev.not (.t rfl)) ?_)
  refine nil ?_
  refine pN ?_
  first | refine condD rfl (fun h0 => ?_) (fun h0 => ?_) | refine cond rfl (fun h0 => ?_) (fun h0 => ?_)
  · try simp only [Bool.and_eq_true, Bool.or_eq_true, Bool.or_eq_false_iff, Bool.and_eq_false_iff, Bool.not_eq_true', Bool.not_eq_false', decide_eq_true_eq, decide_eq_false_iff_not, Decidable.not_not] at h0
    refine seq ?_
    refine region ?_
    refine cons (opv (Ev.assign (.c (v := .bool true) rfl)) ?_)
    refine nil ?_
    refine pN ?_
    refine ret ?_
    refine pR ?_
    refine done rfl (.tmp rfl .nil) (retE ?_)
    cases one <;> cases other <;> simp_all [prefixesR, tupV] <;> rfl
  · try simp only [Bool.and_eq_true, Bool.or_eq_true, Bool.or_eq_false_iff, Bool.and_eq_false_iff, Bool.not_eq_true', Bool.not_eq_false', decide_eq_true_eq, decide_eq_false_iff_not, Decidable.not_not] at h0
    refine skip ?_
    refine pN ?_
    refine seq ?_
    refine seq ?_
    refine region ?_
    refine cons (opv (Ev.move (.t rfl)) ?_)
    refine cons (opv (Ev.not (.t rfl)) ?_)
    refine nil ?_
    refine pN ?_
    first | refine condD rfl (fun h1 => ?_) (fun h1 => ?_) | refine cond rfl (fun h1 => ?_) (fun h1 => ?_)
    · try simp only [Bool.and_eq_true, Bool.or_eq_true, Bool.or_eq_false_iff, Bool.and_eq_false_iff, Bool.not_eq_true', Bool.not_eq_false', decide_eq_true_eq, decide_eq_false_iff_not, Decidable.not_not] at h1
      refine region ?_
      refine cons (opv (Ev.move (.t rfl)) ?_)
      refine cons (opv (Ev.buildS (fs := _) (places := [(0, 1), (1, 16)]) z27 rfl Try.underlying27 (by kernel_rfl) (.cons (.t rfl) .nil) (Fills.cons SAddr.l_v6 rfl Fills.nil)) ?_)
      refine cons (opv (Ev.buildS (fs := _) (places := [(0, 17), (17, 1)]) z29 rfl Try.underlying29 (by kernel_rfl) (.cons (.t rfl) .nil) (Fills.cons SPrefix.l_addr rfl Fills.nil)) ?_)
      refine cons (storeV ty29 (Lens.id _) (.t rfl) (.t rfl) (by repeat first | exact Upd.head | apply Upd.tail | apply Upd.right) ?_)
      refine nil ?_
      refine pN ?_
      refine seq ?_
      refine region ?_
      refine cons (opv (Ev.fieldAddr (o := 17) (.t rfl) (by kernel_rfl)) ?_)
      refine cons (opv (Ev.load ty3 (.t rfl) (ptsVar (by repeat first | exact mH | apply mT | apply mA) SPrefix.l_bits)) ?_)
      refine cons (opv (Ev.fieldAddr (o := 17) (.t rfl) (by kernel_rfl)) ?_)
      refine cons (opv (Ev.load (xv := a.bits) ty3 (.t rfl) (ptsVar (by repeat first | exact mH | apply mT | apply mA) SPrefix.l_bits)) ?_)
      refine cons (opv (Ev.geq_i (.t rfl) (.t rfl)) ?_)
      refine cons (opv (Ev.move (.t rfl)) ?_)
      refine cons (opg rfl rfl (Ev.load (xv := a) ty29 (.t rfl) (ptsVar (by repeat first | exact mH | apply mT | apply mA) (Lens.id _))) ?_)
      refine cons (opg rfl rfl (Ev.fieldAddr (o := 0) (.t rfl) (by kernel_rfl)) ?_)
      refine cons (opg rfl rfl (Ev.load ty27 (.g rfl id) (ptsVar (by repeat first | exact mH | apply mT | apply mA) SPrefix.l_addr)) ?_)
      refine cons (callg rfl rfl en39 (.cons (.g rfl id) (.cons (.g rfl id) .nil)) (fun hg w I => rhas_ok _ _ w) ?_)
      refine cons (opv (Ev.pickA (.t rfl) (fun {_} h => by cases h; rfl) ⟨_, rfl⟩ (by intro h1 h; first | (rw [h] <;> rfl) | (rw [h1, h] <;> rfl) | (rw [h, h1] <;> rfl) | simp_all) (.c (v := .bool false) rfl)) ?_)
      refine cons (opv (Ev.assign (.t rfl)) ?_)
      refine nil ?_
      refine pN ?_
      refine ret ?_
      refine done rfl (.tmp rfl .nil) (retE ?_)
      cases one <;> cases other <;> simp_all [prefixesR, tupV] <;> rfl
    · try simp only [Bool.and_eq_true, Bool.or_eq_true, Bool.or_eq_false_iff, Bool.and_eq_false_iff, Bool.not_eq_true', Bool.not_eq_false', decide_eq_true_eq, decide_eq_false_iff_not, Decidable.not_not] at h1
      refine skip ?_
      refine pN ?_
      refine seq ?_
      refine region ?_
      refine cons (opv (Ev.fieldAddr (o := 17) (.t rfl) (by kernel_rfl)) ?_)
      refine cons (opv (Ev.load ty3 (.t rfl) (ptsVar (by repeat first | exact mH | apply mT | apply mA) SPrefix.l_bits)) ?_)
      refine cons (opv (Ev.fieldAddr (o := 17) (.t rfl) (by kernel_rfl)) ?_)
      refine cons (opv (Ev.load (xv := a.bits) ty3 (.t rfl) (ptsVar (by repeat first | exact mH | apply mT | apply mA) SPrefix.l_bits)) ?_)
      refine cons (opv (Ev.geq_i (.t rfl) (.t rfl)) ?_)
      refine cons (opv (Ev.move (.t rfl)) ?_)
      refine cons (opg rfl rfl (Ev.load (xv := a) ty29 (.t rfl) (ptsVar (by repeat first | exact mH | apply mT | apply mA) (Lens.id _))) ?_)
      refine cons (opg rfl rfl (Ev.fieldAddr (o := 0) (.t rfl) (by kernel_rfl)) ?_)
      refine cons (opg rfl rfl (Ev.load ty27 (.g rfl id) (ptsVar (by repeat first | exact mH | apply mT | apply mA) SPrefix.l_addr)) ?_)
      refine cons (callg rfl rfl en39 (.cons (.g rfl id) (.cons (.g rfl id) .nil)) (fun hg w I => rhas_ok _ _ w) ?_)
      refine cons (opv (Ev.pickA (.t rfl) (fun {_} h => by cases h; rfl) ⟨_, rfl⟩ (by intro h1 h; first | (rw [h] <;> rfl) | (rw [h1, h] <;> rfl) | (rw [h, h1] <;> rfl) | simp_all) (.c (v := .bool false) rfl)) ?_)
      refine cons (opv (Ev.assign (.t rfl)) ?_)
      refine nil ?_
      refine pN ?_
      refine ret ?_
      refine done rfl (.tmp rfl .nil) (retE ?_)
      cases one <;> cases other <;> simp_all [prefixesR, tupV] <;> rfl

theorem rkinds_ok (m : SMatch) (w : World) : Calls Try.prog 43 #[eMatch.val m] w (RetV w (.tuple #[.bool (k4R m), .bool (k6R m)])) := by
  refine enter0 30 Try.func43 rfl rfl (Nat.le_of_ble_eq_true rfl) ?_
  refine seq ?_
  refine region ?_
  refine cons (box (E := eMatch) (.t rfl) (fun b1 => ?_))
  refine cons (opv (Ev.assign (.c (v := .bool false) rfl)) ?_)
  refine cons (opv (Ev.assign (.c (v := .bool false) rfl)) ?_)
  refine nil ?_
  refine pN ?_
  refine seq ?_
  refine region ?_
  refine cons (opv (Ev.assign (.c (v := .bool true) rfl)) ?_)
  refine cons (opv (Ev.assign (.c (v := .bool true) rfl)) ?_)
  refine nil ?_
  refine pN ?_
  refine seq ?_
  refine seq ?_
  refine region ?_
  refine cons (opv (Ev.load (xv := m) ty31 (.t rfl) (ptsVar (by repeat first | exact mH | apply mT | apply mA) (Lens.id _))) ?_)
  refine cons (callv en31 (.cons (.t rfl) (.cons (.c (v := U8 2) rfl) .nil)) (fun w I => rasks_ok _ _ w (by decide)) ?_)
  refine nil ?_
  refine pN ?_
  first | refine condD rfl (fun h0 => ?_) (fun h0 => ?_) | refine cond rfl (fun h0 => ?_) (fun h0 => ?_)
  · try simp only [Bool.and_eq_true, Bool.or_eq_true, Bool.or_eq_false_iff, Bool.and_eq_false_iff, Bool.not_eq_true', Bool.not_eq_false', decide_eq_true_eq, decide_eq_false_iff_not, Decidable.not_not] at h0
    refine draw' (by kernel_rfl) ?_
    refine take 0 rfl (by kernel_rfl) (by kernel_rfl) (by kernel_rfl) (by repeat first | exact sR | exact sN | apply sC | apply sS | apply sA) (Ev.fieldAddr (o := 3) (.t rfl) (by kernel_rfl)) ?_
    refine take 1 rfl (by kernel_rfl) (by kernel_rfl) (by kernel_rfl) (by repeat first | exact sR | exact sN | apply sC | apply sS | apply sA) (Ev.fieldAddr (o := 0) (.t rfl) (by kernel_rfl)) ?_
    refine take 2 rfl (by kernel_rfl) (by kernel_rfl) (by kernel_rfl) (by repeat first | exact sR | exact sN | apply sC | apply sS | apply sA) (Ev.fieldAddr (o := 0) (.t rfl) (by kernel_rfl)) ?_
    refine take 3 rfl (by kernel_rfl) (by kernel_rfl) (by kernel_rfl) (by repeat first | exact sR | exact sN | apply sC | apply sS | apply sA) (Ev.load (xv := m.src.addr.v6) ty4 (.t rfl) (ptsVar (by repeat first | exact mH | apply mT | apply mA) (Lens.comp (Lens.comp SMatch.l_src SPrefix.l_addr) SAddr.l_v6))) ?_
    refine take 4 rfl (by kernel_rfl) (by kernel_rfl) (by kernel_rfl) (by repeat first | exact sR | exact sN | apply sC | apply sS | apply sA) (Ev.not (.t rfl)) ?_
    refine take 5 rfl (by kernel_rfl) (by kernel_rfl) (by kernel_rfl) (by repeat first | exact sR | exact sN | apply sC | apply sS | apply sA) (Ev.fieldAddr (o := 3) (.t rfl) (by kernel_rfl)) ?_
    refine take 6 rfl (by kernel_rfl) (by kernel_rfl) (by kernel_rfl) (by repeat first | exact sR | exact sN | apply sC | apply sS | apply sA) (Ev.fieldAddr (o := 0) (.t rfl) (by kernel_rfl)) ?_
    refine take 7 rfl (by kernel_rfl) (by kernel_rfl) (by kernel_rfl) (by repeat first | exact sR | exact sN | apply sC | apply sS | apply sA) (Ev.fieldAddr (o := 0) (.t rfl) (by kernel_rfl)) ?_
    refine take 8 rfl (by kernel_rfl) (by kernel_rfl) (by kernel_rfl) (by repeat first | exact sR | exact sN | apply sC | apply sS | apply sA) (Ev.load (xv := m.src.addr.v6) ty4 (.t rfl) (ptsVar (by repeat first | exact mH | apply mT | apply mA) (Lens.comp (Lens.comp SMatch.l_src SPrefix.l_addr) SAddr.l_v6))) ?_
    refine take 9 rfl (by kernel_rfl) (by kernel_rfl) (by kernel_rfl) (by repeat first | exact sR | exact sN | apply sC | apply sS | apply sA) (Ev.assign (.t rfl)) ?_
    refine take 10 rfl (by kernel_rfl) (by kernel_rfl) (by kernel_rfl) (by repeat first | exact sR | exact sN | apply sC | apply sS | apply sA) (Ev.assign (.t rfl)) ?_
    refine over (by kernel_rfl) ?_
    refine pN ?_
    refine seq ?_
    refine seq ?_
    refine region ?_
    refine cons (opv (Ev.load (xv := m) ty31 (.t rfl) (ptsVar (by repeat first | exact mH | apply mT | apply mA) (Lens.id _))) ?_)
    refine cons (callv en31 (.cons (.t rfl) (.cons (.c (v := U8 4) rfl) .nil)) (fun w I => rasks_ok _ _ w (by decide)) ?_)
    refine nil ?_
    refine pN ?_
    first | refine condD rfl (fun h1 => ?_) (fun h1 => ?_) | refine cond rfl (fun h1 => ?_) (fun h1 => ?_)
    · try simp only [Bool.and_eq_true, Bool.or_eq_true, Bool.or_eq_false_iff, Bool.and_eq_false_iff, Bool.not_eq_true', Bool.not_eq_false', decide_eq_true_eq, decide_eq_false_iff_not, Decidable.not_not] at h1
      refine draw' (by kernel_rfl) ?_
      refine take 0 rfl (by kernel_rfl) (by kernel_rfl) (by kernel_rfl) (by repeat first | exact sR | exact sN | apply sC | apply sS | apply sA) (Ev.fieldAddr (o := 21) (.t rfl) (by kernel_rfl)) ?_
      refine take 1 rfl (by kernel_rfl) (by kernel_rfl) (by kernel_rfl) (by repeat first | exact sR | exact sN | apply sC | apply sS | apply sA) (Ev.fieldAddr (o := 0) (.t rfl) (by kernel_rfl)) ?_
      refine take 2 rfl (by kernel_rfl) (by kernel_rfl) (by kernel_rfl) (by repeat first | exact sR | exact sN | apply sC | apply sS | apply sA) (Ev.fieldAddr (o := 0) (.t rfl) (by kernel_rfl)) ?_
      refine take 3 rfl (by kernel_rfl) (by kernel_rfl) (by kernel_rfl) (by repeat first | exact sR | exact sN | apply sC | apply sS | apply sA) (Ev.load (xv := m.dst.addr.v6) ty4 (.t rfl) (ptsVar (by repeat first | exact mH | apply mT | apply mA) (Lens.comp (Lens.comp SMatch.l_dst SPrefix.l_addr) SAddr.l_v6))) ?_
      refine take 4 rfl (by kernel_rfl) (by kernel_rfl) (by kernel_rfl) (by repeat first | exact sR | exact sN | apply sC | apply sS | apply sA) (Ev.not (.t rfl)) ?_
      refine take 5 rfl (by kernel_rfl) (by kernel_rfl) (by kernel_rfl) (by repeat first | exact sR | exact sN | apply sC | apply sS | apply sA) (Ev.fieldAddr (o := 21) (.t rfl) (by kernel_rfl)) ?_
      refine take 6 rfl (by kernel_rfl) (by kernel_rfl) (by kernel_rfl) (by repeat first | exact sR | exact sN | apply sC | apply sS | apply sA) (Ev.fieldAddr (o := 0) (.t rfl) (by kernel_rfl)) ?_
      refine take 7 rfl (by kernel_rfl) (by kernel_rfl) (by kernel_rfl) (by repeat first | exact sR | exact sN | apply sC | apply sS | apply sA) (Ev.fieldAddr (o := 0) (.t rfl) (by kernel_rfl)) ?_
      refine take 8 rfl (by kernel_rfl) (by kernel_rfl) (by kernel_rfl) (by repeat first | exact sR | exact sN | apply sC | apply sS | apply sA) (Ev.load (xv := m.dst.addr.v6) ty4 (.t rfl) (ptsVar (by repeat first | exact mH | apply mT | apply mA) (Lens.comp (Lens.comp SMatch.l_dst SPrefix.l_addr) SAddr.l_v6))) ?_
      refine take 9 rfl (by kernel_rfl) (by kernel_rfl) (by kernel_rfl) (by repeat first | exact sR | exact sN | apply sC | apply sS | apply sA) (Ev.assign (.t rfl)) ?_
      refine take 10 rfl (by kernel_rfl) (by kernel_rfl) (by kernel_rfl) (by repeat first | exact sR | exact sN | apply sC | apply sS | apply sA) (Ev.assign (.t rfl)) ?_
      refine over (by kernel_rfl) ?_
      refine pN ?_
      refine seq ?_
      refine region ?_
      refine cons (opv (Ev.move (.t rfl)) ?_)
      refine cons (opv (Ev.move (.t rfl)) ?_)
      refine cons (opv (Ev.assign (.t rfl)) ?_)
      refine cons (opv (Ev.assign (.t rfl)) ?_)
      refine nil ?_
      refine pN ?_
      refine ret ?_
      refine done rfl (.tmp rfl (.tmp rfl .nil)) (retE ?_)
      simp_all [k4R, k6R, asksB, tupV] <;> rfl
    · try simp only [Bool.and_eq_true, Bool.or_eq_true, Bool.or_eq_false_iff, Bool.and_eq_false_iff, Bool.not_eq_true', Bool.not_eq_false', decide_eq_true_eq, decide_eq_false_iff_not, Decidable.not_not] at h1
      refine skip ?_
      refine pN ?_
      refine seq ?_
      refine region ?_
      refine cons (opv (Ev.move (.t rfl)) ?_)
      refine cons (opv (Ev.move (.t rfl)) ?_)
      refine cons (opv (Ev.assign (.t rfl)) ?_)
      refine cons (opv (Ev.assign (.t rfl)) ?_)
      refine nil ?_
      refine pN ?_
      refine ret ?_
      refine done rfl (.tmp rfl (.tmp rfl .nil)) (retE ?_)
      simp_all [k4R, k6R, asksB, tupV] <;> rfl
  · try simp only [Bool.and_eq_true, Bool.or_eq_true, Bool.or_eq_false_iff, Bool.and_eq_false_iff, Bool.not_eq_true', Bool.not_eq_false', decide_eq_true_eq, decide_eq_false_iff_not, Decidable.not_not] at h0
    refine skip ?_
    refine pN ?_
    refine seq ?_
    refine seq ?_
    refine region ?_
    refine cons (opv (Ev.load (xv := m) ty31 (.t rfl) (ptsVar (by repeat first | exact mH | apply mT | apply mA) (Lens.id _))) ?_)
    refine cons (callv en31 (.cons (.t rfl) (.cons (.c (v := U8 4) rfl) .nil)) (fun w I => rasks_ok _ _ w (by decide)) ?_)
    refine nil ?_
    refine pN ?_
    first | refine condD rfl (fun h1 => ?_) (fun h1 => ?_) | refine cond rfl (fun h1 => ?_) (fun h1 => ?_)
    · try simp only [Bool.and_eq_true, Bool.or_eq_true, Bool.or_eq_false_iff, Bool.and_eq_false_iff, Bool.not_eq_true', Bool.not_eq_false', decide_eq_true_eq, decide_eq_false_iff_not, Decidable.not_not] at h1
      refine draw' (by kernel_rfl) ?_
      refine take 0 rfl (by kernel_rfl) (by kernel_rfl) (by kernel_rfl) (by repeat first | exact sR | exact sN | apply sC | apply sS | apply sA) (Ev.fieldAddr (o := 21) (.t rfl) (by kernel_rfl)) ?_
      refine take 1 rfl (by kernel_rfl) (by kernel_rfl) (by kernel_rfl) (by repeat first | exact sR | exact sN | apply sC | apply sS | apply sA) (Ev.fieldAddr (o := 0) (.t rfl) (by kernel_rfl)) ?_
      refine take 2 rfl (by kernel_rfl) (by kernel_rfl) (by kernel_rfl) (by repeat first | exact sR | exact sN | apply sC | apply sS | apply sA) (Ev.fieldAddr (o := 0) (.t rfl) (by kernel_rfl)) ?_
      refine take 3 rfl (by kernel_rfl) (by kernel_rfl) (by kernel_rfl) (by repeat first | exact sR | exact sN | apply sC | apply sS | apply sA) (Ev.load (xv := m.dst.addr.v6) ty4 (.t rfl) (ptsVar (by repeat first | exact mH | apply mT | apply mA) (Lens.comp (Lens.comp SMatch.l_dst SPrefix.l_addr) SAddr.l_v6))) ?_
      refine take 4 rfl (by kernel_rfl) (by kernel_rfl) (by kernel_rfl) (by repeat first | exact sR | exact sN | apply sC | apply sS | apply sA) (Ev.not (.t rfl)) ?_
      refine take 5 rfl (by kernel_rfl) (by kernel_rfl) (by kernel_rfl) (by repeat first | exact sR | exact sN | apply sC | apply sS | apply sA) (Ev.fieldAddr (o := 21) (.t rfl) (by kernel_rfl)) ?_
      refine take 6 rfl (by kernel_rfl) (by kernel_rfl) (by kernel_rfl) (by repeat first | exact sR | exact sN | apply sC | apply sS | apply sA) (Ev.fieldAddr (o := 0) (.t rfl) (by kernel_rfl)) ?_
      refine take 7 rfl (by kernel_rfl) (by kernel_rfl) (by kernel_rfl) (by repeat first | exact sR | exact sN | apply sC | apply sS | apply sA) (Ev.fieldAddr (o := 0) (.t rfl) (by kernel_rfl)) ?_
      refine take 8 rfl (by kernel_rfl) (by kernel_rfl) (by kernel_rfl) (by repeat first | exact sR | exact sN | apply sC | apply sS | apply sA) (Ev.load (xv := m.dst.addr.v6) ty4 (.t rfl) (ptsVar (by repeat first | exact mH | apply mT | apply mA) (Lens.comp (Lens.comp SMatch.l_dst SPrefix.l_addr) SAddr.l_v6))) ?_
      refine take 9 rfl (by kernel_rfl) (by kernel_rfl) (by kernel_rfl) (by repeat first | exact sR | exact sN | apply sC | apply sS | apply sA) (Ev.assign (.t rfl)) ?_
      refine take 10 rfl (by kernel_rfl) (by kernel_rfl) (by kernel_rfl) (by repeat first | exact sR | exact sN | apply sC | apply sS | apply sA) (Ev.assign (.t rfl)) ?_
      refine over (by kernel_rfl) ?_
      refine pN ?_
      refine seq ?_
      refine region ?_
      refine cons (opv (Ev.move (.t rfl)) ?_)
      refine cons (opv (Ev.move (.t rfl)) ?_)
      refine cons (opv (Ev.assign (.t rfl)) ?_)
      refine cons (opv (Ev.assign (.t rfl)) ?_)
      refine nil ?_
      refine pN ?_
      refine ret ?_
      refine done rfl (.tmp rfl (.tmp rfl .nil)) (retE ?_)
      simp_all [k4R, k6R, asksB, tupV] <;> rfl
    · try simp only [Bool.and_eq_true, Bool.or_eq_true, Bool.or_eq_false_iff, Bool.and_eq_false_iff, Bool.not_eq_true', Bool.not_eq_false', decide_eq_true_eq, decide_eq_false_iff_not, Decidable.not_not] at h1
      refine skip ?_
      refine pN ?_
      refine seq ?_
      refine region ?_
      refine cons (opv (Ev.move (.t rfl)) ?_)
      refine cons (opv (Ev.move (.t rfl)) ?_)
      refine cons (opv (Ev.assign (.t rfl)) ?_)
      refine cons (opv (Ev.assign (.t rfl)) ?_)
      refine nil ?_
      refine pN ?_
      refine ret ?_
      refine done rfl (.tmp rfl (.tmp rfl .nil)) (retE ?_)
      simp_all [k4R, k6R, asksB, tupV] <;> rfl

theorem rboth_ok (m n : SMatch) (q : UInt8) (w : World) (h : q ∈ ([1, 2, 4, 8, 16, 32] : List UInt8)) : Calls Try.prog 49 #[eMatch.val m, eMatch.val n, U8 q] w (RetV w (.bool (asksB m q && asksB n q))) := by
  refine enter0 15 Try.func49 rfl rfl (Nat.le_of_ble_eq_true rfl) ?_
  refine seq ?_
  refine region ?_
  refine cons (box (E := eMatch) (.t rfl) (fun b1 => ?_))
  refine cons (box (E := eMatch) (.t rfl) (fun b2 => ?_))
  refine cons (opv (Ev.assign (.c (v := .bool false) rfl)) ?_)
  refine nil ?_
  refine pN ?_
  refine seq ?_
  refine region ?_
  refine cons (opv (Ev.load (xv := m) ty31 (.t rfl) (ptsVar (by repeat first | exact mH | apply mT | apply mA) (Lens.id _))) ?_)
  refine cons (opv (Ev.move (.t rfl)) ?_)
  refine cons (callv en31 (.cons (.t rfl) (.cons (.t rfl) .nil)) (fun w I => rasks_ok _ _ w h) ?_)
  refine cons (opv (Ev.move (.t rfl)) ?_)
  refine cons (opg rfl rfl (Ev.load (xv := n) ty31 (.t rfl) (ptsVar (by repeat first | exact mH | apply mT | apply mA) (Lens.id _))) ?_)
  refine cons (opg rfl rfl (Ev.move (.t rfl)) ?_)
  refine cons (callg rfl rfl en31 (.cons (.g rfl id) (.cons (.g rfl id) .nil)) (fun hg w I => rasks_ok _ _ w h) ?_)
  refine cons (opv (Ev.pickA (.t rfl) (fun {_} h => by cases h; rfl) ⟨_, rfl⟩ (by intro h1 h; first | (rw [h] <;> rfl) | (rw [h1, h] <;> rfl) | (rw [h, h1] <;> rfl) | simp_all) (.c (v := .bool false) rfl)) ?_)
  refine cons (opv (Ev.assign (.t rfl)) ?_)
  refine nil ?_
  refine pN ?_
  refine ret ?_
  refine done rfl (.tmp rfl .nil) (retE ?_)
  rfl

def unlikeB (a b : SSpan) : Bool := decide (a.to_ < b.from_) || decide (b.to_ < a.from_)

theorem runlike_ok (a b : SSpan) (w : World) : Calls Try.prog 50 #[eSpan.val a, eSpan.val b] w (RetV w (.bool (unlikeB a b))) := by
  refine enter0 17 Try.func50 rfl rfl (Nat.le_of_ble_eq_true rfl) ?_
  refine seq ?_
  refine region ?_
  refine cons (box (E := eSpan) (.t rfl) (fun b1 => ?_))
  refine cons (box (E := eSpan) (.t rfl) (fun b2 => ?_))
  refine cons (opv (Ev.assign (.c (v := .bool false) rfl)) ?_)
  refine nil ?_
  refine pN ?_
  refine seq ?_
  refine region ?_
  refine cons (opv (Ev.fieldAddr (o := 1) (.t rfl) (by kernel_rfl)) ?_)
  refine cons (opv (Ev.load (xv := a.to_) ty22 (.t rfl) (ptsVar (by repeat first | exact mH | apply mT | apply mA) SSpan.l_to_)) ?_)
  refine cons (opv (Ev.fieldAddr (o := 0) (.t rfl) (by kernel_rfl)) ?_)
  refine cons (opv (Ev.load (xv := b.from_) ty22 (.t rfl) (ptsVar (by repeat first | exact mH | apply mT | apply mA) SSpan.l_from_)) ?_)
  refine cons (opv (Ev.lss_u16 (.t rfl) (.t rfl)) ?_)
  refine cons (opv (Ev.move (.t rfl)) ?_)
  refine cons (opg rfl rfl (Ev.fieldAddr (o := 1) (.t rfl) (by kernel_rfl)) ?_)
  refine cons (opg rfl rfl (Ev.load (xv := b.to_) ty22 (.g rfl id) (ptsVar (by repeat first | exact mH | apply mT | apply mA) SSpan.l_to_)) ?_)
  refine cons (opg rfl rfl (Ev.fieldAddr (o := 0) (.t rfl) (by kernel_rfl)) ?_)
  refine cons (opg rfl rfl (Ev.load (xv := a.from_) ty22 (.g rfl id) (ptsVar (by repeat first | exact mH | apply mT | apply mA) SSpan.l_from_)) ?_)
  refine cons (opg rfl rfl (Ev.lss_u16 (.g rfl id) (.g rfl id)) ?_)
  refine cons (opv (Ev.pickO (.t rfl) (.c (v := .bool true) rfl) (fun {_} h => by cases h; rfl) ⟨_, rfl⟩ (by intro h1 h; first | (rw [h] <;> rfl) | (rw [h1, h] <;> rfl) | (rw [h, h1] <;> rfl) | simp_all)) ?_)
  refine cons (opv (Ev.assign (.t rfl)) ?_)
  refine nil ?_
  refine pN ?_
  refine ret ?_
  refine done rfl (.tmp rfl .nil) (retE ?_)
  rfl

theorem rmeet_ok (p q : SPrefix) (w : World) : Calls Try.prog 51 #[ePrefix.val p, ePrefix.val q] w (RetV w (.bool (hasP p q.addr || hasP q p.addr))) := by
  refine enter0 15 Try.func51 rfl rfl (Nat.le_of_ble_eq_true rfl) ?_
  refine seq ?_
  refine region ?_
  refine cons (box (E := ePrefix) (.t rfl) (fun b1 => ?_))
  refine cons (box (E := ePrefix) (.t rfl) (fun b2 => ?_))
  refine cons (opv (Ev.assign (.c (v := .bool false) rfl)) ?_)
  refine nil ?_
  refine pN ?_
  refine seq ?_
  refine region ?_
  refine cons (opv (Ev.load (xv := p) ty29 (.t rfl) (ptsVar (by repeat first | exact mH | apply mT | apply mA) (Lens.id _))) ?_)
  refine cons (opv (Ev.fieldAddr (o := 0) (.t rfl) (by kernel_rfl)) ?_)
  refine cons (opv (Ev.load (xv := q.addr) ty27 (.t rfl) (ptsVar (by repeat first | exact mH | apply mT | apply mA) SPrefix.l_addr)) ?_)
  refine cons (callv en39 (.cons (.t rfl) (.cons (.t rfl) .nil)) (fun w I => rhas_ok _ _ w) ?_)
  refine cons (opv (Ev.move (.t rfl)) ?_)
  refine cons (opg rfl rfl (Ev.load (xv := q) ty29 (.t rfl) (ptsVar (by repeat first | exact mH | apply mT | apply mA) (Lens.id _))) ?_)
  refine cons (opg rfl rfl (Ev.fieldAddr (o := 0) (.t rfl) (by kernel_rfl)) ?_)
  refine cons (opg rfl rfl (Ev.load (xv := p.addr) ty27 (.g rfl id) (ptsVar (by repeat first | exact mH | apply mT | apply mA) SPrefix.l_addr)) ?_)
  refine cons (callg rfl rfl en39 (.cons (.g rfl id) (.cons (.g rfl id) .nil)) (fun hg w I => rhas_ok _ _ w) ?_)
  refine cons (opv (Ev.pickO (.t rfl) (.c (v := .bool true) rfl) (fun {_} h => by cases h; rfl) ⟨_, rfl⟩ (by intro h1 h; first | (rw [h] <;> rfl) | (rw [h1, h] <;> rfl) | (rw [h, h1] <;> rfl) | simp_all)) ?_)
  refine cons (opv (Ev.assign (.t rfl)) ?_)
  refine nil ?_
  refine pN ?_
  refine ret ?_
  refine done rfl (.tmp rfl .nil) (retE ?_)
  rfl
end Go.Proofs.Ytkmdhmfgbgngeaa
