/- rule -/
import Derived.Test.YtkmdhmfgbgngeaaR5
set_option linter.unusedVariables false
set_option linter.unusedSimpArgs false
namespace Go.Proofs.Ytkmdhmfgbgngeaa
open Go Go.Gx

def coversM (m n : SMatch) : Bool := (okM m && okM n) && (!(asksB m 8 && (!asksB n 8 || decide (¬ m.proto = n.proto))) && (spannedB m n 1 m.in_ n.in_ 255 && prefixedB m n 2 m.src n.src && prefixedB m n 4 m.dst n.dst && spannedB m n 16 m.srcPort n.srcPort 65535 && spannedB m n 32 m.dstPort n.dstPort 65535))
def pfx (m n : SMatch) (v : Bool) : Bool := prefixesR (asksB m 2) m.src (asksB n 2) n.src v && prefixesR (asksB m 4) m.dst (asksB n 4) n.dst v
def coversR (m n : SMatch) : Bool := (okM m && okM n) && (spansR (asksB m 1) m.in_ (asksB n 1) n.in_ 255 && ((!k4R n || pfx m n false) && (!k6R n || pfx m n true)) && !(asksB m 8 && (!asksB n 8 || decide (¬ m.proto = n.proto))) && (spansR (asksB m 16) m.srcPort (asksB n 16) n.srcPort 65535 && spansR (asksB m 32) m.dstPort (asksB n 32) n.dstPort 65535))
def both2 (m n : SMatch) (w : UInt8) : Bool := decide (¬ (m.asks &&& n.asks) &&& w = 0)
def apartM (m n : SMatch) : Bool := (okM m && okM n) && (decide (((kI m &&& kI n : Nat) : Int) = 0) || (both2 m n 8 && decide (¬ m.proto = n.proto)) || (both2 m n 1 && unlikeB m.in_ n.in_) || (both2 m n 16 && unlikeB m.srcPort n.srcPort) || (both2 m n 32 && unlikeB m.dstPort n.dstPort) || (both2 m n 2 && !coversP m.src n.src && !coversP n.src m.src) || (both2 m n 4 && !coversP m.dst n.dst && !coversP n.dst m.dst))
def meetB (p q : SPrefix) : Bool := hasP p q.addr || hasP q p.addr
def apartR (m n : SMatch) : Bool := (okM m && okM n) && ((asksB m 1 && asksB n 1 && unlikeB m.in_ n.in_) || !((k4R m && k4R n) || (k6R m && k6R n)) || (asksB m 8 && asksB n 8 && decide (¬ m.proto = n.proto)) || (asksB m 2 && asksB n 2 && !meetB m.src n.src) || (asksB m 4 && asksB n 4 && !meetB m.dst n.dst) || (asksB m 16 && asksB n 16 && unlikeB m.srcPort n.srcPort) || (asksB m 32 && asksB n 32 && unlikeB m.dstPort n.dstPort))

theorem en12 : Enters Try.prog 12 := Enters.mk' (by kernel_rfl)

theorem en40 : Enters Try.prog 40 := Enters.mk' (by kernel_rfl)

theorem en41 : Enters Try.prog 41 := Enters.mk' (by kernel_rfl)

theorem covers_ok (m n : SMatch) (w : World) : Calls Try.prog 25 #[eMatch.val m, eMatch.val n] w (RetV w (.bool (coversM m n))) := by
  refine enter0 70 Try.func25 rfl rfl (Nat.le_of_ble_eq_true rfl) ?_
  refine seq ?_
  refine region ?_
  refine cons (box (E := eMatch) (.t rfl) (fun b1 => ?_))
  refine cons (box (E := eMatch) (.t rfl) (fun b2 => ?_))
  refine cons (opv (Ev.assign (.c (v := .bool false) rfl)) ?_)
  refine nil ?_
  refine pN ?_
  refine seq ?_
  refine seq ?_
  refine region ?_
  refine cons (opv (Ev.load (xv := m) ty31 (.t rfl) (ptsVar (by repeat first | exact mH | apply mT | apply mA) (Lens.id _))) ?_)
  refine cons (callv en12 (.cons (.t rfl) .nil) (fun w I => check_ok _ w) ?_)
  refine cons (opv (Ev.to (v' := .bool (!okM m)) (Ev.neq_i (.t rfl) (.c (v := I 0) rfl)) (congrArg Value.bool (by rw [← ckM_zero]; simp))) ?_)
  refine cons (opv (Ev.move (.t rfl)) ?_)
  refine cons (opg rfl rfl (Ev.load (xv := n) ty31 (.t rfl) (ptsVar (by repeat first | exact mH | apply mT | apply mA) (Lens.id _))) ?_)
  refine cons (callg rfl rfl en12 (.cons (.g rfl id) .nil) (fun hg w I => check_ok _ w) ?_)
  refine cons (opg rfl rfl (Ev.to (v' := .bool (!okM n)) (Ev.neq_i (.g rfl id) (.c (v := I 0) rfl)) (congrArg Value.bool (by rw [← ckM_zero]; simp))) ?_)
  refine cons (opv (Ev.pickO (.t rfl) (.c (v := .bool true) rfl) (fun {_} h => by cases h; rfl) ⟨_, rfl⟩ (by intro h1 h; first | (rw [h] <;> rfl) | (rw [h1, h] <;> rfl) | (rw [h, h1] <;> rfl) | simp_all)) ?_)
  refine nil ?_
  refine pN ?_
  first | refine condD rfl (fun h0 => ?_) (fun h0 => ?_) | refine cond rfl (fun h0 => ?_) (fun h0 => ?_)
  · refine seq ?_
    refine region ?_
    refine cons (opv (Ev.assign (.c (v := .bool false) rfl)) ?_)
    refine nil ?_
    refine pN ?_
    refine ret ?_
    refine pR ?_
    refine done rfl (.tmp rfl .nil) (retE ?_)
    refine bX2 ?_
    unfold coversM
    have h0c : (okM m && okM n) = false := by cases ha : okM m <;> cases hb : okM n <;> simp_all
    rw [h0c]; rfl
  · refine skip ?_
    refine pN ?_
    refine seq ?_
    refine seq ?_
    refine region ?_
    refine cons (opv (Ev.load (xv := m) ty31 (.t rfl) (ptsVar (by repeat first | exact mH | apply mT | apply mA) (Lens.id _))) ?_)
    refine cons (callv en34 (.cons (.t rfl) (.cons (.c (v := U8 8) rfl) .nil)) (fun w I => asks_ok _ _ w) ?_)
    refine cons (opv (Ev.move (.t rfl)) ?_)
    refine cons (opg rfl rfl (Ev.load (xv := n) ty31 (.t rfl) (ptsVar (by repeat first | exact mH | apply mT | apply mA) (Lens.id _))) ?_)
    refine cons (callg rfl rfl en34 (.cons (.g rfl id) (.cons (.c (v := U8 8) rfl) .nil)) (fun hg w I => asks_ok _ _ w) ?_)
    refine cons (opg rfl rfl (Ev.not (.g rfl id)) ?_)
    refine cons (opg rfl rfl (Ev.move (.g rfl id)) ?_)
    refine cons (opg rfl rfl (Ev.fieldAddr (o := 39) (.t rfl) (by kernel_rfl)) ?_)
    refine cons (opg rfl rfl (Ev.load (xv := m.proto) ty5 (.g rfl id) (ptsVar (by repeat first | exact mH | apply mT | apply mA) SMatch.l_proto)) ?_)
    refine cons (opg rfl rfl (Ev.fieldAddr (o := 39) (.t rfl) (by kernel_rfl)) ?_)
    refine cons (opg rfl rfl (Ev.load (xv := n.proto) ty5 (.g rfl id) (ptsVar (by repeat first | exact mH | apply mT | apply mA) SMatch.l_proto)) ?_)
    refine cons (opg rfl rfl (Ev.neq_u8 (.g rfl id) (.g rfl id)) ?_)
    refine cons (opg rfl rfl (Ev.pickO (.g rfl id) (.c (v := .bool true) rfl) (fun {_} h => by cases h; rfl) ⟨_, rfl⟩ (by intro h1 h; first | (rw [h] <;> rfl) | (rw [h1, h] <;> rfl) | (rw [h, h1] <;> rfl) | simp_all)) ?_)
    refine cons (opv (Ev.pickA (.t rfl) (fun {_} h => by cases h; rfl) ⟨_, rfl⟩ (by intro h1 h; first | (rw [h] <;> rfl) | (rw [h1, h] <;> rfl) | (rw [h, h1] <;> rfl) | simp_all) (.c (v := .bool false) rfl)) ?_)
    refine nil ?_
    refine pN ?_
    first | refine condD rfl (fun h1 => ?_) (fun h1 => ?_) | refine cond rfl (fun h1 => ?_) (fun h1 => ?_)
    · refine seq ?_
      refine region ?_
      refine cons (opv (Ev.assign (.c (v := .bool false) rfl)) ?_)
      refine nil ?_
      refine pN ?_
      refine ret ?_
      refine pR ?_
      refine done rfl (.tmp rfl .nil) (retE ?_)
      refine bX2 ?_
      unfold coversM
      rw [h1]; simp
    · refine skip ?_
      refine pN ?_
      refine seq ?_
      refine region ?_
      refine cons (opv (Ev.load (xv := m) ty31 (.t rfl) (ptsVar (by repeat first | exact mH | apply mT | apply mA) (Lens.id _))) ?_)
      refine cons (opv (Ev.load (xv := n) ty31 (.t rfl) (ptsVar (by repeat first | exact mH | apply mT | apply mA) (Lens.id _))) ?_)
      refine cons (opv (Ev.fieldAddr (o := 1) (.t rfl) (by kernel_rfl)) ?_)
      refine cons (opv (Ev.load (xv := m.in_) ty24 (.t rfl) (ptsVar (by repeat first | exact mH | apply mT | apply mA) SMatch.l_in_)) ?_)
      refine cons (opv (Ev.fieldAddr (o := 1) (.t rfl) (by kernel_rfl)) ?_)
      refine cons (opv (Ev.load (xv := n.in_) ty24 (.t rfl) (ptsVar (by repeat first | exact mH | apply mT | apply mA) SMatch.l_in_)) ?_)
      refine cons (callv en40 (.cons (.t rfl) (.cons (.t rfl) (.cons (.c (v := U8 1) rfl) (.cons (.t rfl) (.cons (.t rfl) (.cons (.c (v := U16 255) rfl) .nil)))))) (fun w I => spanned_ok _ _ _ _ _ _ w) ?_)
      refine cons (opv (Ev.move (.t rfl)) ?_)
      refine cons (opg rfl rfl (Ev.load (xv := m) ty31 (.t rfl) (ptsVar (by repeat first | exact mH | apply mT | apply mA) (Lens.id _))) ?_)
      refine cons (opg rfl rfl (Ev.load (xv := n) ty31 (.t rfl) (ptsVar (by repeat first | exact mH | apply mT | apply mA) (Lens.id _))) ?_)
      refine cons (opg rfl rfl (Ev.fieldAddr (o := 3) (.t rfl) (by kernel_rfl)) ?_)
      refine cons (opg rfl rfl (Ev.load (xv := m.src) ty29 (.g rfl id) (ptsVar (by repeat first | exact mH | apply mT | apply mA) SMatch.l_src)) ?_)
      refine cons (opg rfl rfl (Ev.fieldAddr (o := 3) (.t rfl) (by kernel_rfl)) ?_)
      refine cons (opg rfl rfl (Ev.load (xv := n.src) ty29 (.g rfl id) (ptsVar (by repeat first | exact mH | apply mT | apply mA) SMatch.l_src)) ?_)
      refine cons (callg rfl rfl en41 (.cons (.g rfl id) (.cons (.g rfl id) (.cons (.c (v := U8 2) rfl) (.cons (.g rfl id) (.cons (.g rfl id) .nil))))) (fun hg w I => prefixed_ok _ _ _ _ _ w) ?_)
      refine cons (opv (Ev.pickA (.t rfl) (fun {_} h => by cases h; rfl) ⟨_, rfl⟩ (by intro h1 h; first | (rw [h] <;> rfl) | (rw [h1, h] <;> rfl) | (rw [h, h1] <;> rfl) | simp_all) (.c (v := .bool false) rfl)) ?_)
      refine cons (opv (Ev.move (.t rfl)) ?_)
      refine cons (opg rfl rfl (Ev.load (xv := m) ty31 (.t rfl) (ptsVar (by repeat first | exact mH | apply mT | apply mA) (Lens.id _))) ?_)
      refine cons (opg rfl rfl (Ev.load (xv := n) ty31 (.t rfl) (ptsVar (by repeat first | exact mH | apply mT | apply mA) (Lens.id _))) ?_)
      refine cons (opg rfl rfl (Ev.fieldAddr (o := 21) (.t rfl) (by kernel_rfl)) ?_)
      refine cons (opg rfl rfl (Ev.load (xv := m.dst) ty29 (.g rfl id) (ptsVar (by repeat first | exact mH | apply mT | apply mA) SMatch.l_dst)) ?_)
      refine cons (opg rfl rfl (Ev.fieldAddr (o := 21) (.t rfl) (by kernel_rfl)) ?_)
      refine cons (opg rfl rfl (Ev.load (xv := n.dst) ty29 (.g rfl id) (ptsVar (by repeat first | exact mH | apply mT | apply mA) SMatch.l_dst)) ?_)
      refine cons (callg rfl rfl en41 (.cons (.g rfl id) (.cons (.g rfl id) (.cons (.c (v := U8 4) rfl) (.cons (.g rfl id) (.cons (.g rfl id) .nil))))) (fun hg w I => prefixed_ok _ _ _ _ _ w) ?_)
      refine cons (opv (Ev.pickA (.t rfl) (fun {_} h => by cases h; rfl) ⟨_, rfl⟩ (by intro h1 h; first | (rw [h] <;> rfl) | (rw [h1, h] <;> rfl) | (rw [h, h1] <;> rfl) | simp_all) (.c (v := .bool false) rfl)) ?_)
      refine cons (opv (Ev.move (.t rfl)) ?_)
      refine cons (opg rfl rfl (Ev.load (xv := m) ty31 (.t rfl) (ptsVar (by repeat first | exact mH | apply mT | apply mA) (Lens.id _))) ?_)
      refine cons (opg rfl rfl (Ev.load (xv := n) ty31 (.t rfl) (ptsVar (by repeat first | exact mH | apply mT | apply mA) (Lens.id _))) ?_)
      refine cons (opg rfl rfl (Ev.fieldAddr (o := 40) (.t rfl) (by kernel_rfl)) ?_)
      refine cons (opg rfl rfl (Ev.load (xv := m.srcPort) ty24 (.g rfl id) (ptsVar (by repeat first | exact mH | apply mT | apply mA) SMatch.l_srcPort)) ?_)
      refine cons (opg rfl rfl (Ev.fieldAddr (o := 40) (.t rfl) (by kernel_rfl)) ?_)
      refine cons (opg rfl rfl (Ev.load (xv := n.srcPort) ty24 (.g rfl id) (ptsVar (by repeat first | exact mH | apply mT | apply mA) SMatch.l_srcPort)) ?_)
      refine cons (callg rfl rfl en40 (.cons (.g rfl id) (.cons (.g rfl id) (.cons (.c (v := U8 16) rfl) (.cons (.g rfl id) (.cons (.g rfl id) (.cons (.c (v := U16 65535) rfl) .nil)))))) (fun hg w I => spanned_ok _ _ _ _ _ _ w) ?_)
      refine cons (opv (Ev.pickA (.t rfl) (fun {_} h => by cases h; rfl) ⟨_, rfl⟩ (by intro h1 h; first | (rw [h] <;> rfl) | (rw [h1, h] <;> rfl) | (rw [h, h1] <;> rfl) | simp_all) (.c (v := .bool false) rfl)) ?_)
      refine cons (opv (Ev.move (.t rfl)) ?_)
      refine cons (opg rfl rfl (Ev.load (xv := m) ty31 (.t rfl) (ptsVar (by repeat first | exact mH | apply mT | apply mA) (Lens.id _))) ?_)
      refine cons (opg rfl rfl (Ev.load (xv := n) ty31 (.t rfl) (ptsVar (by repeat first | exact mH | apply mT | apply mA) (Lens.id _))) ?_)
      refine cons (opg rfl rfl (Ev.fieldAddr (o := 42) (.t rfl) (by kernel_rfl)) ?_)
      refine cons (opg rfl rfl (Ev.load (xv := m.dstPort) ty24 (.g rfl id) (ptsVar (by repeat first | exact mH | apply mT | apply mA) SMatch.l_dstPort)) ?_)
      refine cons (opg rfl rfl (Ev.fieldAddr (o := 42) (.t rfl) (by kernel_rfl)) ?_)
      refine cons (opg rfl rfl (Ev.load (xv := n.dstPort) ty24 (.g rfl id) (ptsVar (by repeat first | exact mH | apply mT | apply mA) SMatch.l_dstPort)) ?_)
      refine cons (callg rfl rfl en40 (.cons (.g rfl id) (.cons (.g rfl id) (.cons (.c (v := U8 32) rfl) (.cons (.g rfl id) (.cons (.g rfl id) (.cons (.c (v := U16 65535) rfl) .nil)))))) (fun hg w I => spanned_ok _ _ _ _ _ _ w) ?_)
      refine cons (opv (Ev.pickA (.t rfl) (fun {_} h => by cases h; rfl) ⟨_, rfl⟩ (by intro h1 h; first | (rw [h] <;> rfl) | (rw [h1, h] <;> rfl) | (rw [h, h1] <;> rfl) | simp_all) (.c (v := .bool false) rfl)) ?_)
      refine cons (opv (Ev.assign (.t rfl)) ?_)
      refine nil ?_
      refine pN ?_
      refine ret ?_
      refine done rfl (.tmp rfl .nil) (retE ?_)
      refine bX2 ?_
      unfold coversM
      have h0c : (okM m && okM n) = true := by simpa using h0
      rw [h0c, h1]; simp [Bool.and_assoc]

theorem en11 : Enters Try.prog 11 := Enters.mk' (by kernel_rfl)

theorem en42 : Enters Try.prog 42 := Enters.mk' (by kernel_rfl)

theorem en43 : Enters Try.prog 43 := Enters.mk' (by kernel_rfl)

theorem en44 : Enters Try.prog 44 := Enters.mk' (by kernel_rfl)

theorem rcovers_ok (m n : SMatch) (w : World) : Calls Try.prog 26 #[eMatch.val m, eMatch.val n] w (RetV w (.bool (coversR m n))) := by
  refine enter0 109 Try.func26 rfl rfl (Nat.le_of_ble_eq_true rfl) ?_
  refine seq ?_
  refine region ?_
  refine cons (box (E := eMatch) (.t rfl) (fun b1 => ?_))
  refine cons (box (E := eMatch) (.t rfl) (fun b2 => ?_))
  refine cons (opv (Ev.assign (.c (v := .bool false) rfl)) ?_)
  refine nil ?_
  refine pN ?_
  refine seq ?_
  refine seq ?_
  refine region ?_
  refine cons (opv (Ev.load (xv := m) ty31 (.t rfl) (ptsVar (by repeat first | exact mH | apply mT | apply mA) (Lens.id _))) ?_)
  refine cons (callv en11 (.cons (.t rfl) .nil) (fun w I => rcheck_ok _ w) ?_)
  refine cons (opv (Ev.not (.t rfl)) ?_)
  refine cons (opv (Ev.move (.t rfl)) ?_)
  refine cons (opg rfl rfl (Ev.load (xv := n) ty31 (.t rfl) (ptsVar (by repeat first | exact mH | apply mT | apply mA) (Lens.id _))) ?_)
  refine cons (callg rfl rfl en11 (.cons (.g rfl id) .nil) (fun hg w I => rcheck_ok _ w) ?_)
  refine cons (opg rfl rfl (Ev.not (.g rfl id)) ?_)
  refine cons (opv (Ev.pickO (.t rfl) (.c (v := .bool true) rfl) (fun {_} h => by cases h; rfl) ⟨_, rfl⟩ (by intro h1 h; first | (rw [h] <;> rfl) | (rw [h1, h] <;> rfl) | (rw [h, h1] <;> rfl) | simp_all)) ?_)
  refine nil ?_
  refine pN ?_
  first | refine condD rfl (fun h0 => ?_) (fun h0 => ?_) | refine cond rfl (fun h0 => ?_) (fun h0 => ?_)
  · refine seq ?_
    refine region ?_
    refine cons (opv (Ev.assign (.c (v := .bool false) rfl)) ?_)
    refine nil ?_
    refine pN ?_
    refine ret ?_
    refine pR ?_
    refine done rfl (.tmp rfl .nil) (retE ?_)
    refine bX2 ?_
    unfold coversR
    have h0c : (okM m && okM n) = false := by cases ha : okM m <;> cases hb : okM n <;> simp_all
    rw [h0c]; rfl
  · refine skip ?_
    refine pN ?_
    refine seq ?_
    refine seq ?_
    refine draw' (by kernel_rfl) ?_
    refine take 0 rfl (by kernel_rfl) (by kernel_rfl) (by kernel_rfl) (by repeat first | exact sR | exact sN | apply sC | apply sS | apply sA) (Ev.load (xv := m) ty31 (.t rfl) (ptsVar (by repeat first | exact mH | apply mT | apply mA) (Lens.id _))) ?_
    refine take 2 rfl (by kernel_rfl) (by kernel_rfl) (by kernel_rfl) (by repeat first | exact sR | exact sN | apply sC | apply sS | apply sA) (Ev.fieldAddr (o := 1) (.t rfl) (by kernel_rfl)) ?_
    refine take 3 rfl (by kernel_rfl) (by kernel_rfl) (by kernel_rfl) (by repeat first | exact sR | exact sN | apply sC | apply sS | apply sA) (Ev.load (xv := m.in_) ty24 (.t rfl) (ptsVar (by repeat first | exact mH | apply mT | apply mA) SMatch.l_in_)) ?_
    refine take 4 rfl (by kernel_rfl) (by kernel_rfl) (by kernel_rfl) (by repeat first | exact sR | exact sN | apply sC | apply sS | apply sA) (Ev.load (xv := n) ty31 (.t rfl) (ptsVar (by repeat first | exact mH | apply mT | apply mA) (Lens.id _))) ?_
    refine take 6 rfl (by kernel_rfl) (by kernel_rfl) (by kernel_rfl) (by repeat first | exact sR | exact sN | apply sC | apply sS | apply sA) (Ev.fieldAddr (o := 1) (.t rfl) (by kernel_rfl)) ?_
    refine take 7 rfl (by kernel_rfl) (by kernel_rfl) (by kernel_rfl) (by repeat first | exact sR | exact sN | apply sC | apply sS | apply sA) (Ev.load (xv := n.in_) ty24 (.t rfl) (ptsVar (by repeat first | exact mH | apply mT | apply mA) SMatch.l_in_)) ?_
    refine all [1] (by kernel_rfl) (by decide) (.cons rfl ?_ .nil)
    refine (callv en31 (.cons (.t rfl) (.cons (.c (v := U8 1) rfl) .nil)) (fun w I => rasks_ok _ _ w (by decide)) ?_)
    refine heldN_of (by repeat first | exact sR | exact sN | apply sC | apply sS | apply sA) ?_
    refine all [5] (by kernel_rfl) (by decide) (.cons rfl ?_ .nil)
    refine (callv en31 (.cons (.t rfl) (.cons (.c (v := U8 1) rfl) .nil)) (fun w I => rasks_ok _ _ w (by decide)) ?_)
    refine heldN_of (by repeat first | exact sR | exact sN | apply sC | apply sS | apply sA) ?_
    refine all [8] (by kernel_rfl) (by decide) (.cons rfl ?_ .nil)
    refine (callv en42 (.cons (.t rfl) (.cons (.t rfl) (.cons (.t rfl) (.cons (.t rfl) (.cons (.c (v := U16 255) rfl) .nil))))) (fun w I => rspans_ok _ _ _ _ _ w) ?_)
    refine heldN_of (by repeat first | exact sR | exact sN | apply sC | apply sS | apply sA) ?_
    refine take 9 rfl (by kernel_rfl) (by kernel_rfl) (by kernel_rfl) (by repeat first | exact sR | exact sN | apply sC | apply sS | apply sA) (Ev.not (.t rfl)) ?_
    refine over (by kernel_rfl) ?_
    refine pN ?_
    first | refine condD rfl (fun h1 => ?_) (fun h1 => ?_) | refine cond rfl (fun h1 => ?_) (fun h1 => ?_)
    · refine seq ?_
      refine region ?_
      refine cons (opv (Ev.assign (.c (v := .bool false) rfl)) ?_)
      refine nil ?_
      refine pN ?_
      refine ret ?_
      refine pR ?_
      refine done rfl (.tmp rfl .nil) (retE ?_)
      refine bX2 ?_
      unfold coversR
      have h1c : spansR (asksB m 1) m.in_ (asksB n 1) n.in_ 255 = false := by simpa using h1
      rw [h1c]; simp
    · refine skip ?_
      refine pN ?_
      refine seq ?_
      refine region ?_
      refine cons (opv (Ev.load (xv := n) ty31 (.t rfl) (ptsVar (by repeat first | exact mH | apply mT | apply mA) (Lens.id _))) ?_)
      refine cons (callv en43 (.cons (.t rfl) .nil) (fun w I => rkinds_ok _ w) ?_)
      refine cons (opv (Ev.move (.t rfl)) ?_)
      refine cons (opv (Ev.extract (.t rfl) rfl) ?_)
      refine cons (opv (Ev.extract (.t rfl) rfl) ?_)
      refine cons (opv (Ev.assign (.t rfl)) ?_)
      refine cons (opv (Ev.assign (.t rfl)) ?_)
      refine nil ?_
      refine pN ?_
      refine seq ?_
      refine seq ?_
      refine region ?_
      refine cons (opv (Ev.assign (.c (v := I 0) rfl)) ?_)
      refine nil ?_
      refine pN ?_
      refine block ?_
      refine loop (X := Int) (fun x : Int => (0 ≤ x ∧ x ≤ 2) ∧ (1 ≤ x → (!k4R n || pfx m n false) = true) ∧ (2 ≤ x → (!k6R n || pfx m n true) = true)) (fun x : Int => [(2, true, .pointer (some ⟨b1, 0, none⟩)), (3, true, .pointer (some ⟨b2, 0, none⟩)), (5, true, .bool (k4R n)), (6, true, .bool (k6R n)), (7, true, I x)]) (fun x : Int => [Var b2 eMatch n 31, Var b1 eMatch m 31]) (fun x : Int => (2 - x).toNat) (0) ⟨?_, ?_, ?_⟩ (by repeat first | exact Sub.nil | refine Sub.cons rfl ?_) (by repeat first | exact sR | exact sN | apply sC | apply sS | apply sA) (fun x hx => ?_)
      · omega
      · intro h; omega
      · intro h; omega
      obtain ⟨i, rfl⟩ : ∃ y, y = x := ⟨x, rfl⟩
      obtain ⟨hi, hp0, hp1⟩ : (0 ≤ i ∧ i ≤ 2) ∧ (1 ≤ i → (!k4R n || pfx m n false) = true) ∧ (2 ≤ i → (!k6R n || pfx m n true) = true) := hx
      show Sat _ _ [(2, true, .pointer (some ⟨b1, 0, none⟩)), (3, true, .pointer (some ⟨b2, 0, none⟩)), (5, true, .bool (k4R n)), (6, true, .bool (k6R n)), (7, true, I i)] [Var b2 eMatch n 31, Var b1 eMatch m 31]
      refine seq ?_
      refine seq ?_
      refine region ?_
      refine cons (opv (Ev.move (.t rfl)) ?_)
      refine cons (opv (Ev.lss_i (.t rfl) (.c (v := I 2) rfl)) ?_)
      refine nil ?_
      refine pN ?_
      first | refine condD rfl (fun hlt => ?_) (fun hge => ?_) | refine cond rfl (fun hlt => ?_) (fun hge => ?_)
      · try simp only [Bool.and_eq_true, Bool.or_eq_true, Bool.or_eq_false_iff, Bool.and_eq_false_iff, Bool.not_eq_true', Bool.not_eq_false', decide_eq_true_eq, decide_eq_false_iff_not, Decidable.not_not] at hlt
        refine skip ?_
        refine pN ?_
        refine seq ?_
        refine block ?_
        refine seq ?_
        refine region ?_
        refine cons (opv (Ev.move (.t rfl)) ?_)
        refine cons (opv (Ev.eql_i (.t rfl) (.c (v := I 1) rfl)) ?_)
        refine cons (opv (Ev.assign (.t rfl)) ?_)
        refine nil ?_
        refine pN ?_
        refine seq ?_
        refine seq ?_
        refine region ?_
        refine cons (opv (Ev.move (.t rfl)) ?_)
        refine cons (opv (Ev.move (.t rfl)) ?_)
        refine cons (opg rfl rfl (Ev.move (.t rfl)) ?_)
        refine cons (opg rfl rfl (Ev.not (.g rfl id)) ?_)
        refine cons (opv (Ev.pickA (.t rfl) (fun {_} h => by cases h; rfl) ⟨_, rfl⟩ (by intro h1 h; first | (rw [h] <;> rfl) | (rw [h1, h] <;> rfl) | (rw [h, h1] <;> rfl) | simp_all) (.c (v := .bool false) rfl)) ?_)
        refine cons (opv (Ev.move (.t rfl)) ?_)
        refine cons (opg rfl rfl (Ev.move (.t rfl)) ?_)
        refine cons (opg rfl rfl (Ev.not (.g rfl id)) ?_)
        refine cons (opg rfl rfl (Ev.move (.g rfl id)) ?_)
        refine cons (opg rfl rfl (Ev.move (.t rfl)) ?_)
        refine cons (opg rfl rfl (Ev.not (.g rfl id)) ?_)
        refine cons (opg rfl rfl (Ev.pickA (.g rfl id) (fun {_} h => by cases h; rfl) ⟨_, rfl⟩ (by intro h1 h; first | (rw [h] <;> rfl) | (rw [h1, h] <;> rfl) | (rw [h, h1] <;> rfl) | simp_all) (.c (v := .bool false) rfl)) ?_)
        refine cons (opv (Ev.pickO (.t rfl) (.c (v := .bool true) rfl) (fun {_} h => by cases h; rfl) ⟨_, rfl⟩ (by intro h1 h; first | (rw [h] <;> rfl) | (rw [h1, h] <;> rfl) | (rw [h, h1] <;> rfl) | simp_all)) ?_)
        refine nil ?_
        refine pN ?_
        first | refine condD rfl (fun h3 => ?_) (fun h3 => ?_) | refine cond rfl (fun h3 => ?_) (fun h3 => ?_)
        · refine exit ?_
          refine pX ?_
          refine bX ?_
          refine pN ?_
          refine region ?_
          refine cons (opv (Ev.move (.t rfl)) ?_)
          refine cons (opv (Ev.add_i (.t rfl) (.c (v := I 1) rfl) (fun _ => by omega)) ?_)
          refine cons (opv (Ev.assign (.t rfl)) ?_)
          refine nil ?_
          refine pN ?_
          refine next (X := Int) (i + 1) ⟨?_, ?_, ?_⟩ ?_ (by repeat first | exact Sub.nil | refine Sub.cons rfl ?_) (by repeat first | exact sR | exact sN | apply sC | apply sS | apply sA)
          · try dsimp only
            omega
          · try dsimp only
            intro h
            by_cases e : i = 0
            · subst e; simp_all [pfx]
            · exact hp0 (by omega)
          · try dsimp only
            intro h
            by_cases e : i = 1
            · subst e; simp_all [pfx]
            · exact absurd h (by omega)
          · try dsimp only
            omega
        · refine skip ?_
          refine pN ?_
          refine seq ?_
          refine draw' (by kernel_rfl) ?_
          refine take 0 rfl (by kernel_rfl) (by kernel_rfl) (by kernel_rfl) (by repeat first | exact sR | exact sN | apply sC | apply sS | apply sA) (Ev.load (xv := m) ty31 (.t rfl) (ptsVar (by repeat first | exact mH | apply mT | apply mA) (Lens.id _))) ?_
          refine take 2 rfl (by kernel_rfl) (by kernel_rfl) (by kernel_rfl) (by repeat first | exact sR | exact sN | apply sC | apply sS | apply sA) (Ev.fieldAddr (o := 3) (.t rfl) (by kernel_rfl)) ?_
          refine take 3 rfl (by kernel_rfl) (by kernel_rfl) (by kernel_rfl) (by repeat first | exact sR | exact sN | apply sC | apply sS | apply sA) (Ev.load (xv := m.src) ty29 (.t rfl) (ptsVar (by repeat first | exact mH | apply mT | apply mA) SMatch.l_src)) ?_
          refine take 4 rfl (by kernel_rfl) (by kernel_rfl) (by kernel_rfl) (by repeat first | exact sR | exact sN | apply sC | apply sS | apply sA) (Ev.load (xv := n) ty31 (.t rfl) (ptsVar (by repeat first | exact mH | apply mT | apply mA) (Lens.id _))) ?_
          refine take 6 rfl (by kernel_rfl) (by kernel_rfl) (by kernel_rfl) (by repeat first | exact sR | exact sN | apply sC | apply sS | apply sA) (Ev.fieldAddr (o := 3) (.t rfl) (by kernel_rfl)) ?_
          refine take 7 rfl (by kernel_rfl) (by kernel_rfl) (by kernel_rfl) (by repeat first | exact sR | exact sN | apply sC | apply sS | apply sA) (Ev.load (xv := n.src) ty29 (.t rfl) (ptsVar (by repeat first | exact mH | apply mT | apply mA) SMatch.l_src)) ?_
          refine take 8 rfl (by kernel_rfl) (by kernel_rfl) (by kernel_rfl) (by repeat first | exact sR | exact sN | apply sC | apply sS | apply sA) (Ev.move (.t rfl)) ?_
          refine all [1] (by kernel_rfl) (by decide) (.cons rfl ?_ .nil)
          refine (callv en31 (.cons (.t rfl) (.cons (.c (v := U8 2) rfl) .nil)) (fun w I => rasks_ok _ _ w (by decide)) ?_)
          refine heldN_of (by repeat first | exact sR | exact sN | apply sC | apply sS | apply sA) ?_
          refine all [5] (by kernel_rfl) (by decide) (.cons rfl ?_ .nil)
          refine (callv en31 (.cons (.t rfl) (.cons (.c (v := U8 2) rfl) .nil)) (fun w I => rasks_ok _ _ w (by decide)) ?_)
          refine heldN_of (by repeat first | exact sR | exact sN | apply sC | apply sS | apply sA) ?_
          refine all [9] (by kernel_rfl) (by decide) (.cons rfl ?_ .nil)
          refine (callv en44 (.cons (.t rfl) (.cons (.t rfl) (.cons (.t rfl) (.cons (.t rfl) (.cons (.t rfl) .nil))))) (fun w I => rprefixes_ok _ _ _ _ _ w) ?_)
          refine heldN_of (by repeat first | exact sR | exact sN | apply sC | apply sS | apply sA) ?_
          refine take 10 rfl (by kernel_rfl) (by kernel_rfl) (by kernel_rfl) (by repeat first | exact sR | exact sN | apply sC | apply sS | apply sA) (Ev.not (.t rfl)) ?_
          refine take 11 rfl (by kernel_rfl) (by kernel_rfl) (by kernel_rfl) (by repeat first | exact sR | exact sN | apply sC | apply sS | apply sA) (Ev.move (.t rfl)) ?_
          refine takeg 12 rfl (by kernel_rfl) (by kernel_rfl) (by kernel_rfl) (by repeat first | exact sR | exact sN | apply sC | apply sS | apply sA) rfl rfl (Ev.load (xv := m) ty31 (.t rfl) (ptsVar (by repeat first | exact mH | apply mT | apply mA) (Lens.id _))) ?_
          refine takeg 14 rfl (by kernel_rfl) (by kernel_rfl) (by kernel_rfl) (by repeat first | exact sR | exact sN | apply sC | apply sS | apply sA) rfl rfl (Ev.fieldAddr (o := 21) (.t rfl) (by kernel_rfl)) ?_
          refine takeg 15 rfl (by kernel_rfl) (by kernel_rfl) (by kernel_rfl) (by repeat first | exact sR | exact sN | apply sC | apply sS | apply sA) rfl rfl (Ev.load (xv := m.dst) ty29 (.g rfl id) (ptsVar (by repeat first | exact mH | apply mT | apply mA) SMatch.l_dst)) ?_
          refine takeg 16 rfl (by kernel_rfl) (by kernel_rfl) (by kernel_rfl) (by repeat first | exact sR | exact sN | apply sC | apply sS | apply sA) rfl rfl (Ev.load (xv := n) ty31 (.t rfl) (ptsVar (by repeat first | exact mH | apply mT | apply mA) (Lens.id _))) ?_
          refine takeg 18 rfl (by kernel_rfl) (by kernel_rfl) (by kernel_rfl) (by repeat first | exact sR | exact sN | apply sC | apply sS | apply sA) rfl rfl (Ev.fieldAddr (o := 21) (.t rfl) (by kernel_rfl)) ?_
          refine takeg 19 rfl (by kernel_rfl) (by kernel_rfl) (by kernel_rfl) (by repeat first | exact sR | exact sN | apply sC | apply sS | apply sA) rfl rfl (Ev.load (xv := n.dst) ty29 (.g rfl id) (ptsVar (by repeat first | exact mH | apply mT | apply mA) SMatch.l_dst)) ?_
          refine takeg 20 rfl (by kernel_rfl) (by kernel_rfl) (by kernel_rfl) (by repeat first | exact sR | exact sN | apply sC | apply sS | apply sA) rfl rfl (Ev.move (.t rfl)) ?_
          refine all [13] (by kernel_rfl) (by decide) (.cons rfl ?_ .nil)
          refine (callg rfl rfl en31 (.cons (.g rfl id) (.cons (.c (v := U8 4) rfl) .nil)) (fun hg w I => rasks_ok _ _ w (by decide)) ?_)
          refine heldN_of (by repeat first | exact sR | exact sN | apply sC | apply sS | apply sA) ?_
          refine all [17] (by kernel_rfl) (by decide) (.cons rfl ?_ .nil)
          refine (callg rfl rfl en31 (.cons (.g rfl id) (.cons (.c (v := U8 4) rfl) .nil)) (fun hg w I => rasks_ok _ _ w (by decide)) ?_)
          refine heldN_of (by repeat first | exact sR | exact sN | apply sC | apply sS | apply sA) ?_
          refine all [21] (by kernel_rfl) (by decide) (.cons rfl ?_ .nil)
          refine (callg rfl rfl en44 (.cons (.g rfl id) (.cons (.g rfl id) (.cons (.g rfl id) (.cons (.g rfl id) (.cons (.g rfl id) .nil))))) (fun hg w I => rprefixes_ok _ _ _ _ _ w) ?_)
          refine heldN_of (by repeat first | exact sR | exact sN | apply sC | apply sS | apply sA) ?_
          refine takeg 22 rfl (by kernel_rfl) (by kernel_rfl) (by kernel_rfl) (by repeat first | exact sR | exact sN | apply sC | apply sS | apply sA) rfl rfl (Ev.not (.g rfl id)) ?_
          refine take 23 rfl (by kernel_rfl) (by kernel_rfl) (by kernel_rfl) (by repeat first | exact sR | exact sN | apply sC | apply sS | apply sA) (Ev.pickO (.t rfl) (.c (v := .bool true) rfl) (fun {_} h => by cases h; rfl) ⟨_, rfl⟩ (by intro h1 h; first | (rw [h] <;> rfl) | (rw [h1, h] <;> rfl) | (rw [h, h1] <;> rfl) | simp_all)) ?_
          refine over (by kernel_rfl) ?_
          refine pN ?_
          first | refine condD rfl (fun h4 => ?_) (fun h4 => ?_) | refine cond rfl (fun h4 => ?_) (fun h4 => ?_)
          · refine seq ?_
            refine region ?_
            refine cons (opv (Ev.assign (.c (v := .bool false) rfl)) ?_)
            refine nil ?_
            refine pN ?_
            refine ret ?_
            refine bR ?_
            refine pR ?_
            refine pR ?_
            refine bR ?_
            refine pR ?_
            refine done rfl (.tmp rfl .nil) (retE ?_)
            refine bX2 ?_
            have hi2 : i = 0 ∨ i = 1 := by omega
            rcases hi2 with rfl | rfl
            · have hq : (!k4R n || pfx m n false) = false := by
                have h4b := h4
                simp at h4b
                rw [Bool.or_eq_false_iff]
                refine ⟨by simp_all, ?_⟩
                unfold pfx
                rcases h4b with h | h <;> rw [h] <;> simp
              unfold coversR; rw [hq]; simp
            · have hq : (!k6R n || pfx m n true) = false := by
                have h4b := h4
                simp at h4b
                rw [Bool.or_eq_false_iff]
                refine ⟨by simp_all, ?_⟩
                unfold pfx
                rcases h4b with h | h <;> rw [h] <;> simp
              unfold coversR; rw [hq]; simp
          · refine skip ?_
            refine bN ?_
            refine pN ?_
            refine region ?_
            refine cons (opv (Ev.move (.t rfl)) ?_)
            refine cons (opv (Ev.add_i (.t rfl) (.c (v := I 1) rfl) (fun _ => by omega)) ?_)
            refine cons (opv (Ev.assign (.t rfl)) ?_)
            refine nil ?_
            refine pN ?_
            refine next (X := Int) (i + 1) ⟨?_, ?_, ?_⟩ ?_ (by repeat first | exact Sub.nil | refine Sub.cons rfl ?_) (by repeat first | exact sR | exact sN | apply sC | apply sS | apply sA)
            · try dsimp only
              omega
            · try dsimp only
              intro h
              by_cases e : i = 0
              · subst e; simp_all [pfx]
              · exact hp0 (by omega)
            · try dsimp only
              intro h
              by_cases e : i = 1
              · subst e; simp_all [pfx]
              · exact absurd h (by omega)
            · try dsimp only
              omega
      · try simp only [Bool.and_eq_true, Bool.or_eq_true, Bool.or_eq_false_iff, Bool.and_eq_false_iff, Bool.not_eq_true', Bool.not_eq_false', decide_eq_true_eq, decide_eq_false_iff_not, Decidable.not_not] at hge
        refine exit ?_
        refine pX ?_
        refine pX ?_
        refine bX ?_
        refine pN ?_
        refine seq ?_
        refine seq ?_
        refine region ?_
        refine cons (opv (Ev.load (xv := m) ty31 (.t rfl) (ptsVar (by repeat first | exact mH | apply mT | apply mA) (Lens.id _))) ?_)
        refine cons (callv en31 (.cons (.t rfl) (.cons (.c (v := U8 8) rfl) .nil)) (fun w I => rasks_ok _ _ w (by decide)) ?_)
        refine cons (opv (Ev.move (.t rfl)) ?_)
        refine cons (opg rfl rfl (Ev.load (xv := n) ty31 (.t rfl) (ptsVar (by repeat first | exact mH | apply mT | apply mA) (Lens.id _))) ?_)
        refine cons (callg rfl rfl en31 (.cons (.g rfl id) (.cons (.c (v := U8 8) rfl) .nil)) (fun hg w I => rasks_ok _ _ w (by decide)) ?_)
        refine cons (opg rfl rfl (Ev.not (.g rfl id)) ?_)
        refine cons (opg rfl rfl (Ev.move (.g rfl id)) ?_)
        refine cons (opg rfl rfl (Ev.fieldAddr (o := 39) (.t rfl) (by kernel_rfl)) ?_)
        refine cons (opg rfl rfl (Ev.load (xv := m.proto) ty5 (.g rfl id) (ptsVar (by repeat first | exact mH | apply mT | apply mA) SMatch.l_proto)) ?_)
        refine cons (opg rfl rfl (Ev.fieldAddr (o := 39) (.t rfl) (by kernel_rfl)) ?_)
        refine cons (opg rfl rfl (Ev.load (xv := n.proto) ty5 (.g rfl id) (ptsVar (by repeat first | exact mH | apply mT | apply mA) SMatch.l_proto)) ?_)
        refine cons (opg rfl rfl (Ev.neq_u8 (.g rfl id) (.g rfl id)) ?_)
        refine cons (opg rfl rfl (Ev.pickO (.g rfl id) (.c (v := .bool true) rfl) (fun {_} h => by cases h; rfl) ⟨_, rfl⟩ (by intro h1 h; first | (rw [h] <;> rfl) | (rw [h1, h] <;> rfl) | (rw [h, h1] <;> rfl) | simp_all)) ?_)
        refine cons (opv (Ev.pickA (.t rfl) (fun {_} h => by cases h; rfl) ⟨_, rfl⟩ (by intro h1 h; first | (rw [h] <;> rfl) | (rw [h1, h] <;> rfl) | (rw [h, h1] <;> rfl) | simp_all) (.c (v := .bool false) rfl)) ?_)
        refine nil ?_
        refine pN ?_
        first | refine condD rfl (fun h5 => ?_) (fun h5 => ?_) | refine cond rfl (fun h5 => ?_) (fun h5 => ?_)
        · refine seq ?_
          refine region ?_
          refine cons (opv (Ev.assign (.c (v := .bool false) rfl)) ?_)
          refine nil ?_
          refine pN ?_
          refine ret ?_
          refine pR ?_
          refine done rfl (.tmp rfl .nil) (retE ?_)
          refine bX2 ?_
          unfold coversR
          rw [h5]; simp
        · refine skip ?_
          refine pN ?_
          refine seq ?_
          refine draw' (by kernel_rfl) ?_
          refine take 0 rfl (by kernel_rfl) (by kernel_rfl) (by kernel_rfl) (by repeat first | exact sR | exact sN | apply sC | apply sS | apply sA) (Ev.load (xv := m) ty31 (.t rfl) (ptsVar (by repeat first | exact mH | apply mT | apply mA) (Lens.id _))) ?_
          refine take 2 rfl (by kernel_rfl) (by kernel_rfl) (by kernel_rfl) (by repeat first | exact sR | exact sN | apply sC | apply sS | apply sA) (Ev.fieldAddr (o := 40) (.t rfl) (by kernel_rfl)) ?_
          refine take 3 rfl (by kernel_rfl) (by kernel_rfl) (by kernel_rfl) (by repeat first | exact sR | exact sN | apply sC | apply sS | apply sA) (Ev.load (xv := m.srcPort) ty24 (.t rfl) (ptsVar (by repeat first | exact mH | apply mT | apply mA) SMatch.l_srcPort)) ?_
          refine take 4 rfl (by kernel_rfl) (by kernel_rfl) (by kernel_rfl) (by repeat first | exact sR | exact sN | apply sC | apply sS | apply sA) (Ev.load (xv := n) ty31 (.t rfl) (ptsVar (by repeat first | exact mH | apply mT | apply mA) (Lens.id _))) ?_
          refine take 6 rfl (by kernel_rfl) (by kernel_rfl) (by kernel_rfl) (by repeat first | exact sR | exact sN | apply sC | apply sS | apply sA) (Ev.fieldAddr (o := 40) (.t rfl) (by kernel_rfl)) ?_
          refine take 7 rfl (by kernel_rfl) (by kernel_rfl) (by kernel_rfl) (by repeat first | exact sR | exact sN | apply sC | apply sS | apply sA) (Ev.load (xv := n.srcPort) ty24 (.t rfl) (ptsVar (by repeat first | exact mH | apply mT | apply mA) SMatch.l_srcPort)) ?_
          refine all [1] (by kernel_rfl) (by decide) (.cons rfl ?_ .nil)
          refine (callv en31 (.cons (.t rfl) (.cons (.c (v := U8 16) rfl) .nil)) (fun w I => rasks_ok _ _ w (by decide)) ?_)
          refine heldN_of (by repeat first | exact sR | exact sN | apply sC | apply sS | apply sA) ?_
          refine all [5] (by kernel_rfl) (by decide) (.cons rfl ?_ .nil)
          refine (callv en31 (.cons (.t rfl) (.cons (.c (v := U8 16) rfl) .nil)) (fun w I => rasks_ok _ _ w (by decide)) ?_)
          refine heldN_of (by repeat first | exact sR | exact sN | apply sC | apply sS | apply sA) ?_
          refine all [8] (by kernel_rfl) (by decide) (.cons rfl ?_ .nil)
          refine (callv en42 (.cons (.t rfl) (.cons (.t rfl) (.cons (.t rfl) (.cons (.t rfl) (.cons (.c (v := U16 65535) rfl) .nil))))) (fun w I => rspans_ok _ _ _ _ _ w) ?_)
          refine heldN_of (by repeat first | exact sR | exact sN | apply sC | apply sS | apply sA) ?_
          refine take 9 rfl (by kernel_rfl) (by kernel_rfl) (by kernel_rfl) (by repeat first | exact sR | exact sN | apply sC | apply sS | apply sA) (Ev.move (.t rfl)) ?_
          refine takeg 10 rfl (by kernel_rfl) (by kernel_rfl) (by kernel_rfl) (by repeat first | exact sR | exact sN | apply sC | apply sS | apply sA) rfl rfl (Ev.load (xv := m) ty31 (.t rfl) (ptsVar (by repeat first | exact mH | apply mT | apply mA) (Lens.id _))) ?_
          refine takeg 12 rfl (by kernel_rfl) (by kernel_rfl) (by kernel_rfl) (by repeat first | exact sR | exact sN | apply sC | apply sS | apply sA) rfl rfl (Ev.fieldAddr (o := 42) (.t rfl) (by kernel_rfl)) ?_
          refine takeg 13 rfl (by kernel_rfl) (by kernel_rfl) (by kernel_rfl) (by repeat first | exact sR | exact sN | apply sC | apply sS | apply sA) rfl rfl (Ev.load (xv := m.dstPort) ty24 (.g rfl id) (ptsVar (by repeat first | exact mH | apply mT | apply mA) SMatch.l_dstPort)) ?_
          refine takeg 14 rfl (by kernel_rfl) (by kernel_rfl) (by kernel_rfl) (by repeat first | exact sR | exact sN | apply sC | apply sS | apply sA) rfl rfl (Ev.load (xv := n) ty31 (.t rfl) (ptsVar (by repeat first | exact mH | apply mT | apply mA) (Lens.id _))) ?_
          refine takeg 16 rfl (by kernel_rfl) (by kernel_rfl) (by kernel_rfl) (by repeat first | exact sR | exact sN | apply sC | apply sS | apply sA) rfl rfl (Ev.fieldAddr (o := 42) (.t rfl) (by kernel_rfl)) ?_
          refine takeg 17 rfl (by kernel_rfl) (by kernel_rfl) (by kernel_rfl) (by repeat first | exact sR | exact sN | apply sC | apply sS | apply sA) rfl rfl (Ev.load (xv := n.dstPort) ty24 (.g rfl id) (ptsVar (by repeat first | exact mH | apply mT | apply mA) SMatch.l_dstPort)) ?_
          refine all [11] (by kernel_rfl) (by decide) (.cons rfl ?_ .nil)
          refine (callg rfl rfl en31 (.cons (.g rfl id) (.cons (.c (v := U8 32) rfl) .nil)) (fun hg w I => rasks_ok _ _ w (by decide)) ?_)
          refine heldN_of (by repeat first | exact sR | exact sN | apply sC | apply sS | apply sA) ?_
          refine all [15] (by kernel_rfl) (by decide) (.cons rfl ?_ .nil)
          refine (callg rfl rfl en31 (.cons (.g rfl id) (.cons (.c (v := U8 32) rfl) .nil)) (fun hg w I => rasks_ok _ _ w (by decide)) ?_)
          refine heldN_of (by repeat first | exact sR | exact sN | apply sC | apply sS | apply sA) ?_
          refine all [18] (by kernel_rfl) (by decide) (.cons rfl ?_ .nil)
          refine (callg rfl rfl en42 (.cons (.g rfl id) (.cons (.g rfl id) (.cons (.g rfl id) (.cons (.g rfl id) (.cons (.c (v := U16 65535) rfl) .nil))))) (fun hg w I => rspans_ok _ _ _ _ _ w) ?_)
          refine heldN_of (by repeat first | exact sR | exact sN | apply sC | apply sS | apply sA) ?_
          refine take 19 rfl (by kernel_rfl) (by kernel_rfl) (by kernel_rfl) (by repeat first | exact sR | exact sN | apply sC | apply sS | apply sA) (Ev.pickA (.t rfl) (fun {_} h => by cases h; rfl) ⟨_, rfl⟩ (by intro h1 h; first | (rw [h] <;> rfl) | (rw [h1, h] <;> rfl) | (rw [h, h1] <;> rfl) | simp_all) (.c (v := .bool false) rfl)) ?_
          refine take 20 rfl (by kernel_rfl) (by kernel_rfl) (by kernel_rfl) (by repeat first | exact sR | exact sN | apply sC | apply sS | apply sA) (Ev.assign (.t rfl)) ?_
          refine over (by kernel_rfl) ?_
          refine pN ?_
          refine ret ?_
          refine done rfl (.tmp rfl .nil) (retE ?_)
          refine bX2 ?_
          have h0c : (okM m && okM n) = true := by simpa using h0
          have h1c : spansR (asksB m 1) m.in_ (asksB n 1) n.in_ 255 = true := by simpa using h1
          unfold coversR
          rw [h0c, h1c, hp0 (by omega), hp1 (by omega), h5]; simp

theorem apart1_ok (q bo : UInt8) (a b : SSpan) (p : Nat) (w : World) (hp : PtsTo u8E w p 0 bo) : Calls Try.prog 45 #[U8 q, eSpan.val a, eSpan.val b, .pointer (some ⟨p, 0, none⟩)] w (RetV w (.bool (decide (¬ bo &&& q = 0) && unlikeB a b))) := by
  refine enter0 26 Try.func45 rfl rfl (Nat.le_of_ble_eq_true rfl) ?_
  refine seq ?_
  refine region ?_
  refine cons (box (E := eSpan) (.t rfl) (fun b1 => ?_))
  refine cons (box (E := eSpan) (.t rfl) (fun b2 => ?_))
  refine cons (opv (Ev.assign (.c (v := .bool false) rfl)) ?_)
  refine nil ?_
  refine pN ?_
  refine seq ?_
  refine region ?_
  refine cons (opv (Ev.load ty5 (.t rfl) (ptsL (fun w I => hp.keep I.keeps) (Lens.id _))) ?_)
  refine cons (opv (Ev.move (.t rfl)) ?_)
  refine cons (opv (Ev.and_u8 (.t rfl) (.t rfl)) ?_)
  refine cons (opv (Ev.neq_u8 (.t rfl) (.c (v := U8 0) rfl)) ?_)
  refine cons (opv (Ev.move (.t rfl)) ?_)
  refine cons (opg rfl rfl (Ev.fieldAddr (o := 1) (.t rfl) (by kernel_rfl)) ?_)
  refine cons (opg rfl rfl (Ev.load (xv := a.to_) ty22 (.g rfl id) (ptsVar (by repeat first | exact mH | apply mT | apply mA) SSpan.l_to_)) ?_)
  refine cons (opg rfl rfl (Ev.fieldAddr (o := 0) (.t rfl) (by kernel_rfl)) ?_)
  refine cons (opg rfl rfl (Ev.load (xv := b.from_) ty22 (.g rfl id) (ptsVar (by repeat first | exact mH | apply mT | apply mA) SSpan.l_from_)) ?_)
  refine cons (opg rfl rfl (Ev.lss_u16 (.g rfl id) (.g rfl id)) ?_)
  refine cons (opg rfl rfl (Ev.move (.g rfl id)) ?_)
  refine cons (opg rfl rfl (Ev.fieldAddr (o := 1) (.t rfl) (by kernel_rfl)) ?_)
  refine cons (opg rfl rfl (Ev.load (xv := b.to_) ty22 (.g rfl id) (ptsVar (by repeat first | exact mH | apply mT | apply mA) SSpan.l_to_)) ?_)
  refine cons (opg rfl rfl (Ev.fieldAddr (o := 0) (.t rfl) (by kernel_rfl)) ?_)
  refine cons (opg rfl rfl (Ev.load (xv := a.from_) ty22 (.g rfl id) (ptsVar (by repeat first | exact mH | apply mT | apply mA) SSpan.l_from_)) ?_)
  refine cons (opg rfl rfl (Ev.lss_u16 (.g rfl id) (.g rfl id)) ?_)
  refine cons (opg rfl rfl (Ev.pickO (.g rfl id) (.c (v := .bool true) rfl) (fun {_} h => by cases h; rfl) ⟨_, rfl⟩ (by intro h1 h; first | (rw [h] <;> rfl) | (rw [h1, h] <;> rfl) | (rw [h, h1] <;> rfl) | simp_all)) ?_)
  refine cons (opv (Ev.pickA (.t rfl) (fun {_} h => by cases h; rfl) ⟨_, rfl⟩ (by intro h1 h; first | (rw [h] <;> rfl) | (rw [h1, h] <;> rfl) | (rw [h, h1] <;> rfl) | simp_all) (.c (v := .bool false) rfl)) ?_)
  refine cons (opv (Ev.assign (.t rfl)) ?_)
  refine nil ?_
  refine pN ?_
  refine ret ?_
  refine done rfl (.tmp rfl .nil) (retE ?_)
  rfl

theorem apart2_ok (q bo : UInt8) (a b : SPrefix) (p : Nat) (w : World) (hp : PtsTo u8E w p 0 bo) : Calls Try.prog 46 #[U8 q, ePrefix.val a, ePrefix.val b, .pointer (some ⟨p, 0, none⟩)] w (RetV w (.bool (decide (¬ bo &&& q = 0) && !coversP a b && !coversP b a))) := by
  refine enter0 24 Try.func46 rfl rfl (Nat.le_of_ble_eq_true rfl) ?_
  refine seq ?_
  refine region ?_
  refine cons (box (E := ePrefix) (.t rfl) (fun b1 => ?_))
  refine cons (box (E := ePrefix) (.t rfl) (fun b2 => ?_))
  refine cons (opv (Ev.assign (.c (v := .bool false) rfl)) ?_)
  refine nil ?_
  refine pN ?_
  refine seq ?_
  refine region ?_
  refine cons (opv (Ev.load ty5 (.t rfl) (ptsL (fun w I => hp.keep I.keeps) (Lens.id _))) ?_)
  refine cons (opv (Ev.move (.t rfl)) ?_)
  refine cons (opv (Ev.and_u8 (.t rfl) (.t rfl)) ?_)
  refine cons (opv (Ev.neq_u8 (.t rfl) (.c (v := U8 0) rfl)) ?_)
  refine cons (opv (Ev.move (.t rfl)) ?_)
  refine cons (opg rfl rfl (Ev.load (xv := a) ty29 (.t rfl) (ptsVar (by repeat first | exact mH | apply mT | apply mA) (Lens.id _))) ?_)
  refine cons (opg rfl rfl (Ev.load (xv := b) ty29 (.t rfl) (ptsVar (by repeat first | exact mH | apply mT | apply mA) (Lens.id _))) ?_)
  refine cons (callg rfl rfl en47 (.cons (.g rfl id) (.cons (.g rfl id) .nil)) (fun hg w I => coversP_ok _ _ w) ?_)
  refine cons (opg rfl rfl (Ev.not (.g rfl id)) ?_)
  refine cons (opv (Ev.pickA (.t rfl) (fun {_} h => by cases h; rfl) ⟨_, rfl⟩ (by intro h1 h; first | (rw [h] <;> rfl) | (rw [h1, h] <;> rfl) | (rw [h, h1] <;> rfl) | simp_all) (.c (v := .bool false) rfl)) ?_)
  refine cons (opv (Ev.move (.t rfl)) ?_)
  refine cons (opg rfl rfl (Ev.load (xv := b) ty29 (.t rfl) (ptsVar (by repeat first | exact mH | apply mT | apply mA) (Lens.id _))) ?_)
  refine cons (opg rfl rfl (Ev.load (xv := a) ty29 (.t rfl) (ptsVar (by repeat first | exact mH | apply mT | apply mA) (Lens.id _))) ?_)
  refine cons (callg rfl rfl en47 (.cons (.g rfl id) (.cons (.g rfl id) .nil)) (fun hg w I => coversP_ok _ _ w) ?_)
  refine cons (opg rfl rfl (Ev.not (.g rfl id)) ?_)
  refine cons (opv (Ev.pickA (.t rfl) (fun {_} h => by cases h; rfl) ⟨_, rfl⟩ (by intro h1 h; first | (rw [h] <;> rfl) | (rw [h1, h] <;> rfl) | (rw [h, h1] <;> rfl) | simp_all) (.c (v := .bool false) rfl)) ?_)
  refine cons (opv (Ev.assign (.t rfl)) ?_)
  refine nil ?_
  refine pN ?_
  refine ret ?_
  refine done rfl (.tmp rfl .nil) (retE ?_)
  rfl

theorem en45 : Enters Try.prog 45 := Enters.mk' (by kernel_rfl)

theorem en46 : Enters Try.prog 46 := Enters.mk' (by kernel_rfl)

theorem z5 : (Try.prog.info? 5).bind (·.zero) = some (u8E.val u8E.zero) := by kernel_rfl

theorem apart_ok (m n : SMatch) (w : World) : Calls Try.prog 27 #[eMatch.val m, eMatch.val n] w (RetV w (.bool (apartM m n))) := by
  refine enter0 81 Try.func27 rfl rfl (Nat.le_of_ble_eq_true rfl) ?_
  refine seq ?_
  refine region ?_
  refine cons (box (E := eMatch) (.t rfl) (fun b1 => ?_))
  refine cons (box (E := eMatch) (.t rfl) (fun b2 => ?_))
  refine cons (opv (Ev.assign (.c (v := .bool false) rfl)) ?_)
  refine nil ?_
  refine pN ?_
  refine seq ?_
  refine seq ?_
  refine region ?_
  refine cons (opv (Ev.load (xv := m) ty31 (.t rfl) (ptsVar (by repeat first | exact mH | apply mT | apply mA) (Lens.id _))) ?_)
  refine cons (callv en12 (.cons (.t rfl) .nil) (fun w I => check_ok _ w) ?_)
  refine cons (opv (Ev.to (v' := .bool (!okM m)) (Ev.neq_i (.t rfl) (.c (v := I 0) rfl)) (congrArg Value.bool (by rw [← ckM_zero]; simp))) ?_)
  refine cons (opv (Ev.move (.t rfl)) ?_)
  refine cons (opg rfl rfl (Ev.load (xv := n) ty31 (.t rfl) (ptsVar (by repeat first | exact mH | apply mT | apply mA) (Lens.id _))) ?_)
  refine cons (callg rfl rfl en12 (.cons (.g rfl id) .nil) (fun hg w I => check_ok _ w) ?_)
  refine cons (opg rfl rfl (Ev.to (v' := .bool (!okM n)) (Ev.neq_i (.g rfl id) (.c (v := I 0) rfl)) (congrArg Value.bool (by rw [← ckM_zero]; simp))) ?_)
  refine cons (opv (Ev.pickO (.t rfl) (.c (v := .bool true) rfl) (fun {_} h => by cases h; rfl) ⟨_, rfl⟩ (by intro h1 h; first | (rw [h] <;> rfl) | (rw [h1, h] <;> rfl) | (rw [h, h1] <;> rfl) | simp_all)) ?_)
  refine nil ?_
  refine pN ?_
  first | refine condD rfl (fun h0 => ?_) (fun h0 => ?_) | refine cond rfl (fun h0 => ?_) (fun h0 => ?_)
  · refine seq ?_
    refine region ?_
    refine cons (opv (Ev.assign (.c (v := .bool false) rfl)) ?_)
    refine nil ?_
    refine pN ?_
    refine ret ?_
    refine pR ?_
    refine done rfl (.tmp rfl .nil) (retE ?_)
    refine bX2 ?_
    unfold apartM
    have h0c : (okM m && okM n) = false := by cases ha : okM m <;> cases hb : okM n <;> simp_all
    rw [h0c]; rfl
  · refine skip ?_
    refine pN ?_
    refine seq ?_
    refine region ?_
    refine cons (opv (Ev.fieldAddr (o := 0) (.t rfl) (by kernel_rfl)) ?_)
    refine cons (opv (Ev.load (xv := m.asks) ty5 (.t rfl) (ptsVar (by repeat first | exact mH | apply mT | apply mA) SMatch.l_asks)) ?_)
    refine cons (opv (Ev.fieldAddr (o := 0) (.t rfl) (by kernel_rfl)) ?_)
    refine cons (opv (Ev.load (xv := n.asks) ty5 (.t rfl) (ptsVar (by repeat first | exact mH | apply mT | apply mA) SMatch.l_asks)) ?_)
    refine cons (opv (Ev.and_u8 (.t rfl) (.t rfl)) ?_)
    refine cons (alloc z5 (fun b3 => ?_))
    refine cons (storeV ty5 (Lens.id _) (.t rfl) (.t rfl) (by repeat first | exact Upd.head | apply Upd.tail | apply Upd.right) ?_)
    refine nil ?_
    refine pN ?_
    refine seq ?_
    refine region ?_
    refine cons (opv (Ev.makeFunc (f := 45) (.cons (.t rfl) .nil)) ?_)
    refine cons (opv (Ev.assign (.t rfl)) ?_)
    refine nil ?_
    refine pN ?_
    refine seq ?_
    refine region ?_
    refine cons (opv (Ev.makeFunc (f := 46) (.cons (.t rfl) .nil)) ?_)
    refine cons (opv (Ev.assign (.t rfl)) ?_)
    refine nil ?_
    refine pN ?_
    refine seq ?_
    refine draw' (by kernel_rfl) ?_
    refine take 0 rfl (by kernel_rfl) (by kernel_rfl) (by kernel_rfl) (by repeat first | exact sR | exact sN | apply sC | apply sS | apply sA) (Ev.load (xv := m) ty31 (.t rfl) (ptsVar (by repeat first | exact mH | apply mT | apply mA) (Lens.id _))) ?_
    refine take 2 rfl (by kernel_rfl) (by kernel_rfl) (by kernel_rfl) (by repeat first | exact sR | exact sN | apply sC | apply sS | apply sA) (Ev.load (xv := n) ty31 (.t rfl) (ptsVar (by repeat first | exact mH | apply mT | apply mA) (Lens.id _))) ?_
    refine all [1] (by kernel_rfl) (by decide) (.cons rfl ?_ .nil)
    refine (callv en48 (.cons (.t rfl) .nil) (fun w I => kinds_ok _ w) ?_)
    refine heldN_of (by repeat first | exact sR | exact sN | apply sC | apply sS | apply sA) ?_
    refine all [3] (by kernel_rfl) (by decide) (.cons rfl ?_ .nil)
    refine (callv en48 (.cons (.t rfl) .nil) (fun w I => kinds_ok _ w) ?_)
    refine heldN_of (by repeat first | exact sR | exact sN | apply sC | apply sS | apply sA) ?_
    refine take 4 rfl (by kernel_rfl) (by kernel_rfl) (by kernel_rfl) (by repeat first | exact sR | exact sN | apply sC | apply sS | apply sA) (Ev.bits_i (m := kI m) (n := kI n) (r := kI m &&& kI n) (.inl rfl) (.t rfl) (.t rfl) (fun _ => Nat.lt_of_le_of_lt (kst_le (kst_le (by decide) _ _) _ _) (by decide)) (fun _ => Nat.lt_of_le_of_lt (kst_le (kst_le (by decide) _ _) _ _) (by decide)) rfl) ?_
    refine take 5 rfl (by kernel_rfl) (by kernel_rfl) (by kernel_rfl) (by repeat first | exact sR | exact sN | apply sC | apply sS | apply sA) (Ev.eql_i (.t rfl) (.c (v := I 0) rfl)) ?_
    refine take 6 rfl (by kernel_rfl) (by kernel_rfl) (by kernel_rfl) (by repeat first | exact sR | exact sN | apply sC | apply sS | apply sA) (Ev.move (.t rfl)) ?_
    refine takeg 7 rfl (by kernel_rfl) (by kernel_rfl) (by kernel_rfl) (by repeat first | exact sR | exact sN | apply sC | apply sS | apply sA) rfl rfl (Ev.load ty5 (.t rfl) (ptsVar (by repeat first | exact mH | apply mT | apply mA) (Lens.id _))) ?_
    refine takeg 8 rfl (by kernel_rfl) (by kernel_rfl) (by kernel_rfl) (by repeat first | exact sR | exact sN | apply sC | apply sS | apply sA) rfl rfl (Ev.and_u8 (.g rfl id) (.c (v := U8 8) rfl)) ?_
    refine takeg 9 rfl (by kernel_rfl) (by kernel_rfl) (by kernel_rfl) (by repeat first | exact sR | exact sN | apply sC | apply sS | apply sA) rfl rfl (Ev.neq_u8 (.g rfl id) (.c (v := U8 0) rfl)) ?_
    refine takeg 10 rfl (by kernel_rfl) (by kernel_rfl) (by kernel_rfl) (by repeat first | exact sR | exact sN | apply sC | apply sS | apply sA) rfl rfl (Ev.move (.g rfl id)) ?_
    refine takeg 11 rfl (by kernel_rfl) (by kernel_rfl) (by kernel_rfl) (by repeat first | exact sR | exact sN | apply sC | apply sS | apply sA) rfl rfl (Ev.fieldAddr (o := 39) (.t rfl) (by kernel_rfl)) ?_
    refine takeg 12 rfl (by kernel_rfl) (by kernel_rfl) (by kernel_rfl) (by repeat first | exact sR | exact sN | apply sC | apply sS | apply sA) rfl rfl (Ev.load (xv := m.proto) ty5 (.g rfl id) (ptsVar (by repeat first | exact mH | apply mT | apply mA) SMatch.l_proto)) ?_
    refine takeg 13 rfl (by kernel_rfl) (by kernel_rfl) (by kernel_rfl) (by repeat first | exact sR | exact sN | apply sC | apply sS | apply sA) rfl rfl (Ev.fieldAddr (o := 39) (.t rfl) (by kernel_rfl)) ?_
    refine takeg 14 rfl (by kernel_rfl) (by kernel_rfl) (by kernel_rfl) (by repeat first | exact sR | exact sN | apply sC | apply sS | apply sA) rfl rfl (Ev.load (xv := n.proto) ty5 (.g rfl id) (ptsVar (by repeat first | exact mH | apply mT | apply mA) SMatch.l_proto)) ?_
    refine takeg 15 rfl (by kernel_rfl) (by kernel_rfl) (by kernel_rfl) (by repeat first | exact sR | exact sN | apply sC | apply sS | apply sA) rfl rfl (Ev.neq_u8 (.g rfl id) (.g rfl id)) ?_
    refine takeg 16 rfl (by kernel_rfl) (by kernel_rfl) (by kernel_rfl) (by repeat first | exact sR | exact sN | apply sC | apply sS | apply sA) rfl rfl (Ev.pickA (.g rfl id) (fun {_} h => by cases h; rfl) ⟨_, rfl⟩ (by intro h1 h; first | (rw [h] <;> rfl) | (rw [h1, h] <;> rfl) | (rw [h, h1] <;> rfl) | simp_all) (.c (v := .bool false) rfl)) ?_
    refine take 17 rfl (by kernel_rfl) (by kernel_rfl) (by kernel_rfl) (by repeat first | exact sR | exact sN | apply sC | apply sS | apply sA) (Ev.pickO (.t rfl) (.c (v := .bool true) rfl) (fun {_} h => by cases h; rfl) ⟨_, rfl⟩ (by intro h1 h; first | (rw [h] <;> rfl) | (rw [h1, h] <;> rfl) | (rw [h, h1] <;> rfl) | simp_all)) ?_
    refine take 18 rfl (by kernel_rfl) (by kernel_rfl) (by kernel_rfl) (by repeat first | exact sR | exact sN | apply sC | apply sS | apply sA) (Ev.move (.t rfl)) ?_
    refine takeg 19 rfl (by kernel_rfl) (by kernel_rfl) (by kernel_rfl) (by repeat first | exact sR | exact sN | apply sC | apply sS | apply sA) rfl rfl (Ev.move (.t rfl)) ?_
    refine takeg 20 rfl (by kernel_rfl) (by kernel_rfl) (by kernel_rfl) (by repeat first | exact sR | exact sN | apply sC | apply sS | apply sA) rfl rfl (Ev.fieldAddr (o := 1) (.t rfl) (by kernel_rfl)) ?_
    refine takeg 21 rfl (by kernel_rfl) (by kernel_rfl) (by kernel_rfl) (by repeat first | exact sR | exact sN | apply sC | apply sS | apply sA) rfl rfl (Ev.load (xv := m.in_) ty24 (.g rfl id) (ptsVar (by repeat first | exact mH | apply mT | apply mA) SMatch.l_in_)) ?_
    refine takeg 22 rfl (by kernel_rfl) (by kernel_rfl) (by kernel_rfl) (by repeat first | exact sR | exact sN | apply sC | apply sS | apply sA) rfl rfl (Ev.fieldAddr (o := 1) (.t rfl) (by kernel_rfl)) ?_
    refine takeg 23 rfl (by kernel_rfl) (by kernel_rfl) (by kernel_rfl) (by repeat first | exact sR | exact sN | apply sC | apply sS | apply sA) rfl rfl (Ev.load (xv := n.in_) ty24 (.g rfl id) (ptsVar (by repeat first | exact mH | apply mT | apply mA) SMatch.l_in_)) ?_
    refine all [24] (by kernel_rfl) (by decide) (.cons rfl ?_ .nil)
    refine (callcg rfl rfl (.g rfl id) en45 (.cons (.c (v := U8 1) rfl) (.cons (.g rfl id) (.cons (.g rfl id) .nil))) (fun hg w I => apart1_ok _ _ _ _ _ w (ptsVar (by repeat first | exact mH | apply mT | apply mA) (Lens.id _) w I)) ?_)
    refine heldN_of (by repeat first | exact sR | exact sN | apply sC | apply sS | apply sA) ?_
    refine take 25 rfl (by kernel_rfl) (by kernel_rfl) (by kernel_rfl) (by repeat first | exact sR | exact sN | apply sC | apply sS | apply sA) (Ev.pickO (.t rfl) (.c (v := .bool true) rfl) (fun {_} h => by cases h; rfl) ⟨_, rfl⟩ (by intro h1 h; first | (rw [h] <;> rfl) | (rw [h1, h] <;> rfl) | (rw [h, h1] <;> rfl) | simp_all)) ?_
    refine take 26 rfl (by kernel_rfl) (by kernel_rfl) (by kernel_rfl) (by repeat first | exact sR | exact sN | apply sC | apply sS | apply sA) (Ev.move (.t rfl)) ?_
    refine takeg 27 rfl (by kernel_rfl) (by kernel_rfl) (by kernel_rfl) (by repeat first | exact sR | exact sN | apply sC | apply sS | apply sA) rfl rfl (Ev.move (.t rfl)) ?_
    refine takeg 28 rfl (by kernel_rfl) (by kernel_rfl) (by kernel_rfl) (by repeat first | exact sR | exact sN | apply sC | apply sS | apply sA) rfl rfl (Ev.fieldAddr (o := 40) (.t rfl) (by kernel_rfl)) ?_
    refine takeg 29 rfl (by kernel_rfl) (by kernel_rfl) (by kernel_rfl) (by repeat first | exact sR | exact sN | apply sC | apply sS | apply sA) rfl rfl (Ev.load (xv := m.srcPort) ty24 (.g rfl id) (ptsVar (by repeat first | exact mH | apply mT | apply mA) SMatch.l_srcPort)) ?_
    refine takeg 30 rfl (by kernel_rfl) (by kernel_rfl) (by kernel_rfl) (by repeat first | exact sR | exact sN | apply sC | apply sS | apply sA) rfl rfl (Ev.fieldAddr (o := 40) (.t rfl) (by kernel_rfl)) ?_
    refine takeg 31 rfl (by kernel_rfl) (by kernel_rfl) (by kernel_rfl) (by repeat first | exact sR | exact sN | apply sC | apply sS | apply sA) rfl rfl (Ev.load (xv := n.srcPort) ty24 (.g rfl id) (ptsVar (by repeat first | exact mH | apply mT | apply mA) SMatch.l_srcPort)) ?_
    refine all [32] (by kernel_rfl) (by decide) (.cons rfl ?_ .nil)
    refine (callcg rfl rfl (.g rfl id) en45 (.cons (.c (v := U8 16) rfl) (.cons (.g rfl id) (.cons (.g rfl id) .nil))) (fun hg w I => apart1_ok _ _ _ _ _ w (ptsVar (by repeat first | exact mH | apply mT | apply mA) (Lens.id _) w I)) ?_)
    refine heldN_of (by repeat first | exact sR | exact sN | apply sC | apply sS | apply sA) ?_
    refine take 33 rfl (by kernel_rfl) (by kernel_rfl) (by kernel_rfl) (by repeat first | exact sR | exact sN | apply sC | apply sS | apply sA) (Ev.pickO (.t rfl) (.c (v := .bool true) rfl) (fun {_} h => by cases h; rfl) ⟨_, rfl⟩ (by intro h1 h; first | (rw [h] <;> rfl) | (rw [h1, h] <;> rfl) | (rw [h, h1] <;> rfl) | simp_all)) ?_
    refine take 34 rfl (by kernel_rfl) (by kernel_rfl) (by kernel_rfl) (by repeat first | exact sR | exact sN | apply sC | apply sS | apply sA) (Ev.move (.t rfl)) ?_
    refine takeg 35 rfl (by kernel_rfl) (by kernel_rfl) (by kernel_rfl) (by repeat first | exact sR | exact sN | apply sC | apply sS | apply sA) rfl rfl (Ev.move (.t rfl)) ?_
    refine takeg 36 rfl (by kernel_rfl) (by kernel_rfl) (by kernel_rfl) (by repeat first | exact sR | exact sN | apply sC | apply sS | apply sA) rfl rfl (Ev.fieldAddr (o := 42) (.t rfl) (by kernel_rfl)) ?_
    refine takeg 37 rfl (by kernel_rfl) (by kernel_rfl) (by kernel_rfl) (by repeat first | exact sR | exact sN | apply sC | apply sS | apply sA) rfl rfl (Ev.load (xv := m.dstPort) ty24 (.g rfl id) (ptsVar (by repeat first | exact mH | apply mT | apply mA) SMatch.l_dstPort)) ?_
    refine takeg 38 rfl (by kernel_rfl) (by kernel_rfl) (by kernel_rfl) (by repeat first | exact sR | exact sN | apply sC | apply sS | apply sA) rfl rfl (Ev.fieldAddr (o := 42) (.t rfl) (by kernel_rfl)) ?_
    refine takeg 39 rfl (by kernel_rfl) (by kernel_rfl) (by kernel_rfl) (by repeat first | exact sR | exact sN | apply sC | apply sS | apply sA) rfl rfl (Ev.load (xv := n.dstPort) ty24 (.g rfl id) (ptsVar (by repeat first | exact mH | apply mT | apply mA) SMatch.l_dstPort)) ?_
    refine all [40] (by kernel_rfl) (by decide) (.cons rfl ?_ .nil)
    refine (callcg rfl rfl (.g rfl id) en45 (.cons (.c (v := U8 32) rfl) (.cons (.g rfl id) (.cons (.g rfl id) .nil))) (fun hg w I => apart1_ok _ _ _ _ _ w (ptsVar (by repeat first | exact mH | apply mT | apply mA) (Lens.id _) w I)) ?_)
    refine heldN_of (by repeat first | exact sR | exact sN | apply sC | apply sS | apply sA) ?_
    refine take 41 rfl (by kernel_rfl) (by kernel_rfl) (by kernel_rfl) (by repeat first | exact sR | exact sN | apply sC | apply sS | apply sA) (Ev.pickO (.t rfl) (.c (v := .bool true) rfl) (fun {_} h => by cases h; rfl) ⟨_, rfl⟩ (by intro h1 h; first | (rw [h] <;> rfl) | (rw [h1, h] <;> rfl) | (rw [h, h1] <;> rfl) | simp_all)) ?_
    refine take 42 rfl (by kernel_rfl) (by kernel_rfl) (by kernel_rfl) (by repeat first | exact sR | exact sN | apply sC | apply sS | apply sA) (Ev.move (.t rfl)) ?_
    refine takeg 43 rfl (by kernel_rfl) (by kernel_rfl) (by kernel_rfl) (by repeat first | exact sR | exact sN | apply sC | apply sS | apply sA) rfl rfl (Ev.move (.t rfl)) ?_
    refine takeg 44 rfl (by kernel_rfl) (by kernel_rfl) (by kernel_rfl) (by repeat first | exact sR | exact sN | apply sC | apply sS | apply sA) rfl rfl (Ev.fieldAddr (o := 3) (.t rfl) (by kernel_rfl)) ?_
    refine takeg 45 rfl (by kernel_rfl) (by kernel_rfl) (by kernel_rfl) (by repeat first | exact sR | exact sN | apply sC | apply sS | apply sA) rfl rfl (Ev.load (xv := m.src) ty29 (.g rfl id) (ptsVar (by repeat first | exact mH | apply mT | apply mA) SMatch.l_src)) ?_
    refine takeg 46 rfl (by kernel_rfl) (by kernel_rfl) (by kernel_rfl) (by repeat first | exact sR | exact sN | apply sC | apply sS | apply sA) rfl rfl (Ev.fieldAddr (o := 3) (.t rfl) (by kernel_rfl)) ?_
    refine takeg 47 rfl (by kernel_rfl) (by kernel_rfl) (by kernel_rfl) (by repeat first | exact sR | exact sN | apply sC | apply sS | apply sA) rfl rfl (Ev.load (xv := n.src) ty29 (.g rfl id) (ptsVar (by repeat first | exact mH | apply mT | apply mA) SMatch.l_src)) ?_
    refine all [48] (by kernel_rfl) (by decide) (.cons rfl ?_ .nil)
    refine (callcg rfl rfl (.g rfl id) en46 (.cons (.c (v := U8 2) rfl) (.cons (.g rfl id) (.cons (.g rfl id) .nil))) (fun hg w I => apart2_ok _ _ _ _ _ w (ptsVar (by repeat first | exact mH | apply mT | apply mA) (Lens.id _) w I)) ?_)
    refine heldN_of (by repeat first | exact sR | exact sN | apply sC | apply sS | apply sA) ?_
    refine take 49 rfl (by kernel_rfl) (by kernel_rfl) (by kernel_rfl) (by repeat first | exact sR | exact sN | apply sC | apply sS | apply sA) (Ev.pickO (.t rfl) (.c (v := .bool true) rfl) (fun {_} h => by cases h; rfl) ⟨_, rfl⟩ (by intro h1 h; first | (rw [h] <;> rfl) | (rw [h1, h] <;> rfl) | (rw [h, h1] <;> rfl) | simp_all)) ?_
    refine take 50 rfl (by kernel_rfl) (by kernel_rfl) (by kernel_rfl) (by repeat first | exact sR | exact sN | apply sC | apply sS | apply sA) (Ev.move (.t rfl)) ?_
    refine takeg 51 rfl (by kernel_rfl) (by kernel_rfl) (by kernel_rfl) (by repeat first | exact sR | exact sN | apply sC | apply sS | apply sA) rfl rfl (Ev.move (.t rfl)) ?_
    refine takeg 52 rfl (by kernel_rfl) (by kernel_rfl) (by kernel_rfl) (by repeat first | exact sR | exact sN | apply sC | apply sS | apply sA) rfl rfl (Ev.fieldAddr (o := 21) (.t rfl) (by kernel_rfl)) ?_
    refine takeg 53 rfl (by kernel_rfl) (by kernel_rfl) (by kernel_rfl) (by repeat first | exact sR | exact sN | apply sC | apply sS | apply sA) rfl rfl (Ev.load (xv := m.dst) ty29 (.g rfl id) (ptsVar (by repeat first | exact mH | apply mT | apply mA) SMatch.l_dst)) ?_
    refine takeg 54 rfl (by kernel_rfl) (by kernel_rfl) (by kernel_rfl) (by repeat first | exact sR | exact sN | apply sC | apply sS | apply sA) rfl rfl (Ev.fieldAddr (o := 21) (.t rfl) (by kernel_rfl)) ?_
    refine takeg 55 rfl (by kernel_rfl) (by kernel_rfl) (by kernel_rfl) (by repeat first | exact sR | exact sN | apply sC | apply sS | apply sA) rfl rfl (Ev.load (xv := n.dst) ty29 (.g rfl id) (ptsVar (by repeat first | exact mH | apply mT | apply mA) SMatch.l_dst)) ?_
    refine all [56] (by kernel_rfl) (by decide) (.cons rfl ?_ .nil)
    refine (callcg rfl rfl (.g rfl id) en46 (.cons (.c (v := U8 4) rfl) (.cons (.g rfl id) (.cons (.g rfl id) .nil))) (fun hg w I => apart2_ok _ _ _ _ _ w (ptsVar (by repeat first | exact mH | apply mT | apply mA) (Lens.id _) w I)) ?_)
    refine heldN_of (by repeat first | exact sR | exact sN | apply sC | apply sS | apply sA) ?_
    refine take 57 rfl (by kernel_rfl) (by kernel_rfl) (by kernel_rfl) (by repeat first | exact sR | exact sN | apply sC | apply sS | apply sA) (Ev.pickO (.t rfl) (.c (v := .bool true) rfl) (fun {_} h => by cases h; rfl) ⟨_, rfl⟩ (by intro h1 h; first | (rw [h] <;> rfl) | (rw [h1, h] <;> rfl) | (rw [h, h1] <;> rfl) | simp_all)) ?_
    refine take 58 rfl (by kernel_rfl) (by kernel_rfl) (by kernel_rfl) (by repeat first | exact sR | exact sN | apply sC | apply sS | apply sA) (Ev.assign (.t rfl)) ?_
    refine over (by kernel_rfl) ?_
    refine pN ?_
    refine ret ?_
    refine done rfl (.tmp rfl .nil) (retE ?_)
    refine bX2 ?_
    unfold apartM
    have h0c : (okM m && okM n) = true := by simpa using h0
    rw [h0c]; rfl

theorem en49 : Enters Try.prog 49 := Enters.mk' (by kernel_rfl)

theorem en50 : Enters Try.prog 50 := Enters.mk' (by kernel_rfl)

theorem en51 : Enters Try.prog 51 := Enters.mk' (by kernel_rfl)

theorem rapart_ok (m n : SMatch) (w : World) : Calls Try.prog 28 #[eMatch.val m, eMatch.val n] w (RetV w (.bool (apartR m n))) := by
  refine enter0 117 Try.func28 rfl rfl (Nat.le_of_ble_eq_true rfl) ?_
  refine seq ?_
  refine region ?_
  refine cons (box (E := eMatch) (.t rfl) (fun b1 => ?_))
  refine cons (box (E := eMatch) (.t rfl) (fun b2 => ?_))
  refine cons (opv (Ev.assign (.c (v := .bool false) rfl)) ?_)
  refine nil ?_
  refine pN ?_
  refine seq ?_
  refine seq ?_
  refine region ?_
  refine cons (opv (Ev.load (xv := m) ty31 (.t rfl) (ptsVar (by repeat first | exact mH | apply mT | apply mA) (Lens.id _))) ?_)
  refine cons (callv en11 (.cons (.t rfl) .nil) (fun w I => rcheck_ok _ w) ?_)
  refine cons (opv (Ev.not (.t rfl)) ?_)
  refine cons (opv (Ev.move (.t rfl)) ?_)
  refine cons (opg rfl rfl (Ev.load (xv := n) ty31 (.t rfl) (ptsVar (by repeat first | exact mH | apply mT | apply mA) (Lens.id _))) ?_)
  refine cons (callg rfl rfl en11 (.cons (.g rfl id) .nil) (fun hg w I => rcheck_ok _ w) ?_)
  refine cons (opg rfl rfl (Ev.not (.g rfl id)) ?_)
  refine cons (opv (Ev.pickO (.t rfl) (.c (v := .bool true) rfl) (fun {_} h => by cases h; rfl) ⟨_, rfl⟩ (by intro h1 h; first | (rw [h] <;> rfl) | (rw [h1, h] <;> rfl) | (rw [h, h1] <;> rfl) | simp_all)) ?_)
  refine nil ?_
  refine pN ?_
  first | refine condD rfl (fun h0 => ?_) (fun h0 => ?_) | refine cond rfl (fun h0 => ?_) (fun h0 => ?_)
  · refine seq ?_
    refine region ?_
    refine cons (opv (Ev.assign (.c (v := .bool false) rfl)) ?_)
    refine nil ?_
    refine pN ?_
    refine ret ?_
    refine pR ?_
    refine done rfl (.tmp rfl .nil) (retE ?_)
    refine bX2 ?_
    unfold apartR
    have h0c : (okM m && okM n) = false := by cases ha : okM m <;> cases hb : okM n <;> simp_all
    rw [h0c]; rfl
  · refine skip ?_
    refine pN ?_
    refine seq ?_
    refine region ?_
    refine cons (opv (Ev.load (xv := m) ty31 (.t rfl) (ptsVar (by repeat first | exact mH | apply mT | apply mA) (Lens.id _))) ?_)
    refine cons (callv en43 (.cons (.t rfl) .nil) (fun w I => rkinds_ok _ w) ?_)
    refine cons (opv (Ev.move (.t rfl)) ?_)
    refine cons (opv (Ev.extract (.t rfl) rfl) ?_)
    refine cons (opv (Ev.extract (.t rfl) rfl) ?_)
    refine cons (opv (Ev.assign (.t rfl)) ?_)
    refine cons (opv (Ev.assign (.t rfl)) ?_)
    refine nil ?_
    refine pN ?_
    refine seq ?_
    refine region ?_
    refine cons (opv (Ev.load (xv := n) ty31 (.t rfl) (ptsVar (by repeat first | exact mH | apply mT | apply mA) (Lens.id _))) ?_)
    refine cons (callv en43 (.cons (.t rfl) .nil) (fun w I => rkinds_ok _ w) ?_)
    refine cons (opv (Ev.move (.t rfl)) ?_)
    refine cons (opv (Ev.extract (.t rfl) rfl) ?_)
    refine cons (opv (Ev.extract (.t rfl) rfl) ?_)
    refine cons (opv (Ev.assign (.t rfl)) ?_)
    refine cons (opv (Ev.assign (.t rfl)) ?_)
    refine nil ?_
    refine pN ?_
    refine seq ?_
    refine seq ?_
    refine region ?_
    refine cons (opv (Ev.load (xv := m) ty31 (.t rfl) (ptsVar (by repeat first | exact mH | apply mT | apply mA) (Lens.id _))) ?_)
    refine cons (opv (Ev.load (xv := n) ty31 (.t rfl) (ptsVar (by repeat first | exact mH | apply mT | apply mA) (Lens.id _))) ?_)
    refine cons (callv en49 (.cons (.t rfl) (.cons (.t rfl) (.cons (.c (v := U8 1) rfl) .nil))) (fun w I => rboth_ok _ _ _ w (by decide)) ?_)
    refine cons (opv (Ev.move (.t rfl)) ?_)
    refine cons (opg rfl rfl (Ev.fieldAddr (o := 1) (.t rfl) (by kernel_rfl)) ?_)
    refine cons (opg rfl rfl (Ev.load (xv := m.in_) ty24 (.g rfl id) (ptsVar (by repeat first | exact mH | apply mT | apply mA) SMatch.l_in_)) ?_)
    refine cons (opg rfl rfl (Ev.fieldAddr (o := 1) (.t rfl) (by kernel_rfl)) ?_)
    refine cons (opg rfl rfl (Ev.load (xv := n.in_) ty24 (.g rfl id) (ptsVar (by repeat first | exact mH | apply mT | apply mA) SMatch.l_in_)) ?_)
    refine cons (callg rfl rfl en50 (.cons (.g rfl id) (.cons (.g rfl id) .nil)) (fun hg w I => runlike_ok _ _ w) ?_)
    refine cons (opv (Ev.pickA (.t rfl) (fun {_} h => by cases h; rfl) ⟨_, rfl⟩ (by intro h1 h; first | (rw [h] <;> rfl) | (rw [h1, h] <;> rfl) | (rw [h, h1] <;> rfl) | simp_all) (.c (v := .bool false) rfl)) ?_)
    refine cons (opv (Ev.move (.t rfl)) ?_)
    refine cons (opg rfl rfl (Ev.move (.t rfl)) ?_)
    refine cons (opg rfl rfl (Ev.move (.g rfl id)) ?_)
    refine cons (opg rfl rfl (Ev.move (.t rfl)) ?_)
    refine cons (opg rfl rfl (Ev.pickA (.g rfl id) (fun {_} h => by cases h; rfl) ⟨_, rfl⟩ (by intro h1 h; first | (rw [h] <;> rfl) | (rw [h1, h] <;> rfl) | (rw [h, h1] <;> rfl) | simp_all) (.c (v := .bool false) rfl)) ?_)
    refine cons (opg rfl rfl (Ev.move (.g rfl id)) ?_)
    refine cons (opg rfl rfl (Ev.move (.t rfl)) ?_)
    refine cons (opg rfl rfl (Ev.move (.g rfl id)) ?_)
    refine cons (opg rfl rfl (Ev.move (.t rfl)) ?_)
    refine cons (opg rfl rfl (Ev.pickA (.g rfl id) (fun {_} h => by cases h; rfl) ⟨_, rfl⟩ (by intro h1 h; first | (rw [h] <;> rfl) | (rw [h1, h] <;> rfl) | (rw [h, h1] <;> rfl) | simp_all) (.c (v := .bool false) rfl)) ?_)
    refine cons (opg rfl rfl (Ev.pickO (.g rfl id) (.c (v := .bool true) rfl) (fun {_} h => by cases h; rfl) ⟨_, rfl⟩ (by intro h1 h; first | (rw [h] <;> rfl) | (rw [h1, h] <;> rfl) | (rw [h, h1] <;> rfl) | simp_all)) ?_)
    refine cons (opg rfl rfl (Ev.not (.g rfl id)) ?_)
    refine cons (opv (Ev.pickO (.t rfl) (.c (v := .bool true) rfl) (fun {_} h => by cases h; rfl) ⟨_, rfl⟩ (by intro h1 h; first | (rw [h] <;> rfl) | (rw [h1, h] <;> rfl) | (rw [h, h1] <;> rfl) | simp_all)) ?_)
    refine cons (opv (Ev.move (.t rfl)) ?_)
    refine cons (opg rfl rfl (Ev.load (xv := m) ty31 (.t rfl) (ptsVar (by repeat first | exact mH | apply mT | apply mA) (Lens.id _))) ?_)
    refine cons (callg rfl rfl en31 (.cons (.g rfl id) (.cons (.c (v := U8 8) rfl) .nil)) (fun hg w I => rasks_ok _ _ w (by decide)) ?_)
    refine cons (opg rfl rfl (Ev.move (.g rfl id)) ?_)
    refine cons (opg rfl rfl (Ev.load (xv := n) ty31 (.t rfl) (ptsVar (by repeat first | exact mH | apply mT | apply mA) (Lens.id _))) ?_)
    refine cons (callg rfl rfl en31 (.cons (.g rfl id) (.cons (.c (v := U8 8) rfl) .nil)) (fun hg w I => rasks_ok _ _ w (by decide)) ?_)
    refine cons (opg rfl rfl (Ev.pickA (.g rfl id) (fun {_} h => by cases h; rfl) ⟨_, rfl⟩ (by intro h1 h; first | (rw [h] <;> rfl) | (rw [h1, h] <;> rfl) | (rw [h, h1] <;> rfl) | simp_all) (.c (v := .bool false) rfl)) ?_)
    refine cons (opg rfl rfl (Ev.move (.g rfl id)) ?_)
    refine cons (opg rfl rfl (Ev.fieldAddr (o := 39) (.t rfl) (by kernel_rfl)) ?_)
    refine cons (opg rfl rfl (Ev.load (xv := m.proto) ty5 (.g rfl id) (ptsVar (by repeat first | exact mH | apply mT | apply mA) SMatch.l_proto)) ?_)
    refine cons (opg rfl rfl (Ev.fieldAddr (o := 39) (.t rfl) (by kernel_rfl)) ?_)
    refine cons (opg rfl rfl (Ev.load (xv := n.proto) ty5 (.g rfl id) (ptsVar (by repeat first | exact mH | apply mT | apply mA) SMatch.l_proto)) ?_)
    refine cons (opg rfl rfl (Ev.neq_u8 (.g rfl id) (.g rfl id)) ?_)
    refine cons (opg rfl rfl (Ev.pickA (.g rfl id) (fun {_} h => by cases h; rfl) ⟨_, rfl⟩ (by intro h1 h; first | (rw [h] <;> rfl) | (rw [h1, h] <;> rfl) | (rw [h, h1] <;> rfl) | simp_all) (.c (v := .bool false) rfl)) ?_)
    refine cons (opv (Ev.pickO (.t rfl) (.c (v := .bool true) rfl) (fun {_} h => by cases h; rfl) ⟨_, rfl⟩ (by intro h1 h; first | (rw [h] <;> rfl) | (rw [h1, h] <;> rfl) | (rw [h, h1] <;> rfl) | simp_all)) ?_)
    refine nil ?_
    refine pN ?_
    first | refine condD rfl (fun h1 => ?_) (fun h1 => ?_) | refine cond rfl (fun h1 => ?_) (fun h1 => ?_)
    · refine seq ?_
      refine region ?_
      refine cons (opv (Ev.assign (.c (v := .bool true) rfl)) ?_)
      refine nil ?_
      refine pN ?_
      refine ret ?_
      refine pR ?_
      refine done rfl (.tmp rfl .nil) (retE ?_)
      refine bX2 ?_
      unfold apartR meetB
      have h0c : (okM m && okM n) = true := by simpa using h0
      rw [h0c, h1]; simp
    · refine skip ?_
      refine pN ?_
      refine seq ?_
      refine seq ?_
      refine region ?_
      refine cons (opv (Ev.load (xv := m) ty31 (.t rfl) (ptsVar (by repeat first | exact mH | apply mT | apply mA) (Lens.id _))) ?_)
      refine cons (callv en31 (.cons (.t rfl) (.cons (.c (v := U8 2) rfl) .nil)) (fun w I => rasks_ok _ _ w (by decide)) ?_)
      refine cons (opv (Ev.move (.t rfl)) ?_)
      refine cons (opg rfl rfl (Ev.load (xv := n) ty31 (.t rfl) (ptsVar (by repeat first | exact mH | apply mT | apply mA) (Lens.id _))) ?_)
      refine cons (callg rfl rfl en31 (.cons (.g rfl id) (.cons (.c (v := U8 2) rfl) .nil)) (fun hg w I => rasks_ok _ _ w (by decide)) ?_)
      refine cons (opv (Ev.pickA (.t rfl) (fun {_} h => by cases h; rfl) ⟨_, rfl⟩ (by intro h1 h; first | (rw [h] <;> rfl) | (rw [h1, h] <;> rfl) | (rw [h, h1] <;> rfl) | simp_all) (.c (v := .bool false) rfl)) ?_)
      refine cons (opv (Ev.move (.t rfl)) ?_)
      refine cons (opg rfl rfl (Ev.fieldAddr (o := 3) (.t rfl) (by kernel_rfl)) ?_)
      refine cons (opg rfl rfl (Ev.load (xv := m.src) ty29 (.g rfl id) (ptsVar (by repeat first | exact mH | apply mT | apply mA) SMatch.l_src)) ?_)
      refine cons (opg rfl rfl (Ev.fieldAddr (o := 3) (.t rfl) (by kernel_rfl)) ?_)
      refine cons (opg rfl rfl (Ev.load (xv := n.src) ty29 (.g rfl id) (ptsVar (by repeat first | exact mH | apply mT | apply mA) SMatch.l_src)) ?_)
      refine cons (callg rfl rfl en51 (.cons (.g rfl id) (.cons (.g rfl id) .nil)) (fun hg w I => rmeet_ok _ _ w) ?_)
      refine cons (opg rfl rfl (Ev.not (.g rfl id)) ?_)
      refine cons (opv (Ev.pickA (.t rfl) (fun {_} h => by cases h; rfl) ⟨_, rfl⟩ (by intro h1 h; first | (rw [h] <;> rfl) | (rw [h1, h] <;> rfl) | (rw [h, h1] <;> rfl) | simp_all) (.c (v := .bool false) rfl)) ?_)
      refine cons (opv (Ev.move (.t rfl)) ?_)
      refine cons (opg rfl rfl (Ev.load (xv := m) ty31 (.t rfl) (ptsVar (by repeat first | exact mH | apply mT | apply mA) (Lens.id _))) ?_)
      refine cons (callg rfl rfl en31 (.cons (.g rfl id) (.cons (.c (v := U8 4) rfl) .nil)) (fun hg w I => rasks_ok _ _ w (by decide)) ?_)
      refine cons (opg rfl rfl (Ev.move (.g rfl id)) ?_)
      refine cons (opg rfl rfl (Ev.load (xv := n) ty31 (.t rfl) (ptsVar (by repeat first | exact mH | apply mT | apply mA) (Lens.id _))) ?_)
      refine cons (callg rfl rfl en31 (.cons (.g rfl id) (.cons (.c (v := U8 4) rfl) .nil)) (fun hg w I => rasks_ok _ _ w (by decide)) ?_)
      refine cons (opg rfl rfl (Ev.pickA (.g rfl id) (fun {_} h => by cases h; rfl) ⟨_, rfl⟩ (by intro h1 h; first | (rw [h] <;> rfl) | (rw [h1, h] <;> rfl) | (rw [h, h1] <;> rfl) | simp_all) (.c (v := .bool false) rfl)) ?_)
      refine cons (opg rfl rfl (Ev.move (.g rfl id)) ?_)
      refine cons (opg rfl rfl (Ev.fieldAddr (o := 21) (.t rfl) (by kernel_rfl)) ?_)
      refine cons (opg rfl rfl (Ev.load (xv := m.dst) ty29 (.g rfl id) (ptsVar (by repeat first | exact mH | apply mT | apply mA) SMatch.l_dst)) ?_)
      refine cons (opg rfl rfl (Ev.fieldAddr (o := 21) (.t rfl) (by kernel_rfl)) ?_)
      refine cons (opg rfl rfl (Ev.load (xv := n.dst) ty29 (.g rfl id) (ptsVar (by repeat first | exact mH | apply mT | apply mA) SMatch.l_dst)) ?_)
      refine cons (callg rfl rfl en51 (.cons (.g rfl id) (.cons (.g rfl id) .nil)) (fun hg w I => rmeet_ok _ _ w) ?_)
      refine cons (opg rfl rfl (Ev.not (.g rfl id)) ?_)
      refine cons (opg rfl rfl (Ev.pickA (.g rfl id) (fun {_} h => by cases h; rfl) ⟨_, rfl⟩ (by intro h1 h; first | (rw [h] <;> rfl) | (rw [h1, h] <;> rfl) | (rw [h, h1] <;> rfl) | simp_all) (.c (v := .bool false) rfl)) ?_)
      refine cons (opv (Ev.pickO (.t rfl) (.c (v := .bool true) rfl) (fun {_} h => by cases h; rfl) ⟨_, rfl⟩ (by intro h1 h; first | (rw [h] <;> rfl) | (rw [h1, h] <;> rfl) | (rw [h, h1] <;> rfl) | simp_all)) ?_)
      refine nil ?_
      refine pN ?_
      first | refine condD rfl (fun h2 => ?_) (fun h2 => ?_) | refine cond rfl (fun h2 => ?_) (fun h2 => ?_)
      · refine seq ?_
        refine region ?_
        refine cons (opv (Ev.assign (.c (v := .bool true) rfl)) ?_)
        refine nil ?_
        refine pN ?_
        refine ret ?_
        refine pR ?_
        refine done rfl (.tmp rfl .nil) (retE ?_)
        refine bX2 ?_
        unfold apartR meetB
        have h0c : (okM m && okM n) = true := by simpa using h0
        rw [h0c, h1, Bool.false_or, h2]; simp
      · refine skip ?_
        refine pN ?_
        refine seq ?_
        refine region ?_
        refine cons (opv (Ev.load (xv := m) ty31 (.t rfl) (ptsVar (by repeat first | exact mH | apply mT | apply mA) (Lens.id _))) ?_)
        refine cons (opv (Ev.load (xv := n) ty31 (.t rfl) (ptsVar (by repeat first | exact mH | apply mT | apply mA) (Lens.id _))) ?_)
        refine cons (callv en49 (.cons (.t rfl) (.cons (.t rfl) (.cons (.c (v := U8 16) rfl) .nil))) (fun w I => rboth_ok _ _ _ w (by decide)) ?_)
        refine cons (opv (Ev.move (.t rfl)) ?_)
        refine cons (opg rfl rfl (Ev.fieldAddr (o := 40) (.t rfl) (by kernel_rfl)) ?_)
        refine cons (opg rfl rfl (Ev.load (xv := m.srcPort) ty24 (.g rfl id) (ptsVar (by repeat first | exact mH | apply mT | apply mA) SMatch.l_srcPort)) ?_)
        refine cons (opg rfl rfl (Ev.fieldAddr (o := 40) (.t rfl) (by kernel_rfl)) ?_)
        refine cons (opg rfl rfl (Ev.load (xv := n.srcPort) ty24 (.g rfl id) (ptsVar (by repeat first | exact mH | apply mT | apply mA) SMatch.l_srcPort)) ?_)
        refine cons (callg rfl rfl en50 (.cons (.g rfl id) (.cons (.g rfl id) .nil)) (fun hg w I => runlike_ok _ _ w) ?_)
        refine cons (opv (Ev.pickA (.t rfl) (fun {_} h => by cases h; rfl) ⟨_, rfl⟩ (by intro h1 h; first | (rw [h] <;> rfl) | (rw [h1, h] <;> rfl) | (rw [h, h1] <;> rfl) | simp_all) (.c (v := .bool false) rfl)) ?_)
        refine cons (opv (Ev.move (.t rfl)) ?_)
        refine cons (opg rfl rfl (Ev.load (xv := m) ty31 (.t rfl) (ptsVar (by repeat first | exact mH | apply mT | apply mA) (Lens.id _))) ?_)
        refine cons (opg rfl rfl (Ev.load (xv := n) ty31 (.t rfl) (ptsVar (by repeat first | exact mH | apply mT | apply mA) (Lens.id _))) ?_)
        refine cons (callg rfl rfl en49 (.cons (.g rfl id) (.cons (.g rfl id) (.cons (.c (v := U8 32) rfl) .nil))) (fun hg w I => rboth_ok _ _ _ w (by decide)) ?_)
        refine cons (opg rfl rfl (Ev.move (.g rfl id)) ?_)
        refine cons (opg rfl rfl (Ev.fieldAddr (o := 42) (.t rfl) (by kernel_rfl)) ?_)
        refine cons (opg rfl rfl (Ev.load (xv := m.dstPort) ty24 (.g rfl id) (ptsVar (by repeat first | exact mH | apply mT | apply mA) SMatch.l_dstPort)) ?_)
        refine cons (opg rfl rfl (Ev.fieldAddr (o := 42) (.t rfl) (by kernel_rfl)) ?_)
        refine cons (opg rfl rfl (Ev.load (xv := n.dstPort) ty24 (.g rfl id) (ptsVar (by repeat first | exact mH | apply mT | apply mA) SMatch.l_dstPort)) ?_)
        refine cons (callg rfl rfl en50 (.cons (.g rfl id) (.cons (.g rfl id) .nil)) (fun hg w I => runlike_ok _ _ w) ?_)
        refine cons (opg rfl rfl (Ev.pickA (.g rfl id) (fun {_} h => by cases h; rfl) ⟨_, rfl⟩ (by intro h1 h; first | (rw [h] <;> rfl) | (rw [h1, h] <;> rfl) | (rw [h, h1] <;> rfl) | simp_all) (.c (v := .bool false) rfl)) ?_)
        refine cons (opv (Ev.pickO (.t rfl) (.c (v := .bool true) rfl) (fun {_} h => by cases h; rfl) ⟨_, rfl⟩ (by intro h1 h; first | (rw [h] <;> rfl) | (rw [h1, h] <;> rfl) | (rw [h, h1] <;> rfl) | simp_all)) ?_)
        refine cons (opv (Ev.assign (.t rfl)) ?_)
        refine nil ?_
        refine pN ?_
        refine ret ?_
        refine done rfl (.tmp rfl .nil) (retE ?_)
        refine bX2 ?_
        unfold apartR meetB
        have h0c : (okM m && okM n) = true := by simpa using h0
        rw [h0c, h1, Bool.false_or, h2]; rfl
end Go.Proofs.Ytkmdhmfgbgngeaa
