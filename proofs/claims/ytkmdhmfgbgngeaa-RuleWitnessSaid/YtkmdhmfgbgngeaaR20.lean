/- rule -/
import Derived.Test.YtkmdhmfgbgngeaaR19
set_option linter.unusedVariables false
set_option linter.unusedSimpArgs false
namespace Go.Proofs.Ytkmdhmfgbgngeaa
open Go Go.Gx

/-- A packet with one field another. -/
def inE (b : SLaw19Came) (i : Int) : SLaw19Came := { b with in_ := i }
def spE (b : SLaw19Came) (p : UInt16) : SLaw19Came := { b with h := { b.h with srcPort := p } }
def dpE (b : SLaw19Came) (p : UInt16) : SLaw19Came := { b with h := { b.h with dstPort := p } }
def prE (b : SLaw19Came) (p : UInt8) : SLaw19Came := if p = 6 ∨ p = 17 then { b with h := { b.h with proto := p } } else { b with h := { b.h with proto := p, srcPort := 0, dstPort := 0 } }
def srE (b : SLaw19Came) (a : SAddr) : SLaw19Came := { b with h := { b.h with src := a } }
def dsE (b : SLaw19Came) (a : SAddr) : SLaw19Came := { b with h := { b.h with dst := a } }
def insL (x : SMatch) : List Int := [(x.in_.from_.toNat : Int), (x.in_.from_.toNat : Int) - 1, (x.in_.to_.toNat : Int), (x.in_.to_.toNat : Int) + 1, 0, 255]
def ptsLst (s : SSpan) : List UInt16 := [s.from_, s.from_ - 1, s.to_, s.to_ + 1, 0, 65535]
def prsL (p : UInt8) : List UInt8 := [p, p + 1, 6, 17]
def pfsL (x : SMatch) (v : Bool) : List SPrefix := [x.src, x.dst, zP v]
def adsL (p : SPrefix) : List SAddr := [p.addr, aheadA p.addr, lastA p, nextA (lastA p)]
def adE (b : SLaw19Came) (a : SAddr) : List SLaw19Came := [srE b a, dsE b a]
def pfE (b : SLaw19Came) (v : Bool) (p : SPrefix) : List SLaw19Came := if p.addr.v6 = v then (adsL p).flatMap (adE b) else []
def edge1 (b : SLaw19Came) (v : Bool) (x : SMatch) : List SLaw19Came := (insL x).map (inE b) ++ ((ptsLst x.srcPort).map (spE b) ++ ((ptsLst x.dstPort).map (dpE b) ++ ((prsL x.proto).map (prE b) ++ (pfsL x v).flatMap (pfE b v))))
def edgesL (b : SLaw19Came) (m n : SMatch) (v : Bool) : List SLaw19Came := [b] ++ [m, n].flatMap (edge1 b v)
theorem flat_snoc {α β : Type} (l : List α) (f : α → List β) (i : Int) (h0 : 0 ≤ i) (h1 : i < l.length) (z : α) : (l.take (i + 1).toNat).flatMap f = (l.take i.toNat).flatMap f ++ f (l.getD i.toNat z) := by
  rw [take_snoc l i h0 h1 z, List.flatMap_append]
  simp
theorem map_snoc {α β : Type} (l : List α) (f : α → β) (i : Int) (h0 : 0 ≤ i) (h1 : i < l.length) (z : α) : (l.take (i + 1).toNat).map f = (l.take i.toNat).map f ++ [f (l.getD i.toNat z)] := by
  rw [take_snoc l i h0 h1 z, List.map_append]
  rfl
theorem take_len {α : Type} (l : List α) (i : Int) (h : (l.length : Int) ≤ i) : l.take i.toNat = l := List.take_of_length_le (by omega)
theorem flat_len {α β : Type} (l : List α) (f : α → List β) (c : Nat) (h : ∀ x ∈ l, (f x).length ≤ c) : (l.flatMap f).length ≤ c * l.length := by
  induction l with
  | nil => simp
  | cons a l ih =>
    have h1 := h a List.mem_cons_self
    have h2 := ih (fun x hx => h x (List.mem_cons_of_mem _ hx))
    rw [List.flatMap_cons, List.length_append, List.length_cons, Nat.mul_succ]
    omega
theorem pfE_len (b : SLaw19Came) (v : Bool) (p : SPrefix) : (pfE b v p).length ≤ 8 := by unfold pfE; split <;> simp [adsL, adE]
theorem edge1_len (b : SLaw19Came) (v : Bool) (x : SMatch) : (edge1 b v x).length ≤ 46 := by
  have h := flat_len (pfsL x v) (pfE b v) 8 (fun p _ => pfE_len b v p)
  have e : (pfsL x v).length = 3 := rfl
  rw [e] at h
  unfold edge1
  simp only [List.length_append, List.length_map]
  have e1 : (insL x).length = 6 := rfl
  have e2 : ∀ s, (ptsLst s).length = 6 := fun _ => rfl
  have e3 : (prsL x.proto).length = 4 := rfl
  rw [e1, e2, e2, e3]
  omega
theorem edgesL_len (b : SLaw19Came) (m n : SMatch) (v : Bool) : (edgesL b m n v).length ≤ 93 := by
  have h1 := edge1_len b v m
  have h2 := edge1_len b v n
  unfold edgesL
  simp
  omega

theorem pfs_nonneg (m n : SMatch) (v : Bool) (hb : 0 ≤ m.src.bits ∧ 0 ≤ m.dst.bits ∧ 0 ≤ n.src.bits ∧ 0 ≤ n.dst.bits) (k j : Int) (hk : 0 ≤ k ∧ k < 2) (hj : 0 ≤ j ∧ j < 3) : 0 ≤ ((pfsL ([m, n].getD k.toNat eMatch.zero) v).getD j.toNat ePrefix.zero).bits := by
  have h1 : k = 0 ∨ k = 1 := by omega
  have h2 : j = 0 ∨ j = 1 ∨ j = 2 := by omega
  obtain ⟨b1, b2, b3, b4⟩ := hb
  rcases h1 with rfl | rfl <;> rcases h2 with rfl | rfl | rfl
  · exact b1
  · exact b2
  · exact Int.le_refl _
  · exact b3
  · exact b4
  · exact Int.le_refl _

theorem zb49 : (Try.prog.info? 49).map (fun i => (i.zero, i.bytes)) = some (some (eLaw19Came.val eLaw19Came.zero), 88) := by kernel_rfl

theorem zs49 : (eLaw19Came.val eLaw19Came.zero).cells.size = eLaw19Came.size := by rw [Enc.cells_val, List.size_toArray, Enc.len]

theorem z22 : (Try.prog.info? 22).bind (·.zero) = some (u16E.val u16E.zero) := by kernel_rfl

theorem en68 : Enters Try.prog 68 := Enters.mk' (by kernel_rfl)

theorem en69 : Enters Try.prog 69 := Enters.mk' (by kernel_rfl)

theorem en70 : Enters Try.prog 70 := Enters.mk' (by kernel_rfl)

set_option maxHeartbeats 2000000 in
theorem edges_ok (b : SLaw19Came) (m n : SMatch) (v : Bool) (w : World) (hb : 0 ≤ m.src.bits ∧ 0 ≤ m.dst.bits ∧ 0 ≤ n.src.bits ∧ 0 ≤ n.dst.bits) : Calls Try.prog 53 #[eLaw19Came.val b, eMatch.val m, eMatch.val n, .bool v] w (RetO w eLaw19Came (edgesL b m n v) 49) := by
  refine enter0 212 Try.func53 rfl rfl (Nat.le_of_ble_eq_true rfl) ?_
  refine seq ?_
  refine region ?_
  refine cons (box (E := eLaw19Came) (.t rfl) (fun b1 => ?_))
  refine cons (box (E := eMatch) (.t rfl) (fun b2 => ?_))
  refine cons (box (E := eMatch) (.t rfl) (fun b3 => ?_))
  refine cons (opv (Ev.assign (.c (v := (Go.Value.slice none 0 0)) rfl)) ?_)
  refine nil ?_
  refine pN ?_
  refine seq ?_
  refine region ?_
  refine cons (opv (Ev.load (xv := b) ty49 (.t rfl) (ptsVar (by repeat first | exact mH | apply mT | apply mA) (Lens.id _))) ?_)
  refine cons (buildSlice (E := eLaw19Came) Try.underlying42 ty49 z49 (.cons (.t rfl) .nil) rfl rfl (fun v4 => ?_))
  refine cons (opv (Ev.assign (.t rfl)) ?_)
  refine nil ?_
  refine pN ?_
  refine seq ?_
  refine seq ?_
  refine region ?_
  refine cons (opv (Ev.load (xv := m) ty31 (.t rfl) (ptsVar (by repeat first | exact mH | apply mT | apply mA) (Lens.id _))) ?_)
  refine cons (opv (Ev.load (xv := n) ty31 (.t rfl) (ptsVar (by repeat first | exact mH | apply mT | apply mA) (Lens.id _))) ?_)
  refine cons (buildSlice (E := eMatch) Try.underlying41 ty31 z31 (.cons (.t rfl) (.cons (.t rfl) .nil)) rfl rfl (fun v5 => ?_))
  refine cons (opv (Ev.len Try.underlying41 (.t rfl) (by first | exact isSl_own (by repeat first | exact mH | apply mT | apply mA) | exact fun w I => IsSl.keep0 (by assumption) I.keeps)) ?_)
  refine cons (opv (Ev.move (.c (v := I 0) rfl)) ?_)
  refine nil ?_
  refine pN ?_
  refine block ?_
  refine loop (X := Int × OV × (List SLaw19Came)) (fun x : Int × OV × (List SLaw19Came) => (0 ≤ x.1 ∧ x.1 ≤ 2) ∧ (x.2.2 = [b] ++ ([m, n].take x.1.toNat).flatMap (edge1 b v))) (fun x : Int × OV × (List SLaw19Came) => [(3, true, .bool v), (4, true, .pointer (some ⟨b1, 0, none⟩)), (35, true, v5.v), (36, true, I 2), (37, true, I x.1), (9, true, x.2.1.v)]) (fun x : Int × OV × (List SLaw19Came) => [OwnS v5.v eMatch [m, n] 31, OwnS x.2.1.v eLaw19Came x.2.2 49, Var b1 eLaw19Came b 49]) (fun x : Int × OV × (List SLaw19Came) => (2 - x.1).toNat) (0, v4, [b]) ⟨?_, ?_⟩ (by repeat first | exact Sub.nil | refine Sub.cons rfl ?_) (by repeat first | exact sR | exact sN | apply sC | apply sS | apply sA) (fun x hx => ?_)
  · omega
  · rfl
  obtain ⟨k, o, xs⟩ := x
  obtain ⟨hk, hxs⟩ : (0 ≤ k ∧ k ≤ 2) ∧ (xs = [b] ++ ([m, n].take k.toNat).flatMap (edge1 b v)) := hx
  show Sat _ _ [(3, true, .bool v), (4, true, .pointer (some ⟨b1, 0, none⟩)), (35, true, v5.v), (36, true, I 2), (37, true, I k), (9, true, o.v)] [OwnS v5.v eMatch [m, n] 31, OwnS o.v eLaw19Came xs 49, Var b1 eLaw19Came b 49]
  have lx : xs.length ≤ 93 := by
    have q := flat_len ([m, n].take k.toNat) (edge1 b v) 46 (fun x _ => edge1_len b v x)
    have q2 : ([m, n].take k.toNat).length ≤ 2 := by simp; omega
    rw [hxs, List.length_append]
    have q3 : ([b] : List SLaw19Came).length = 1 := rfl
    omega
  refine seq ?_
  refine region ?_
  refine cons (opv (Ev.lss_i (.t rfl) (.t rfl)) ?_)
  refine nil ?_
  refine pN ?_
  refine seq ?_
  first | refine condD rfl (fun hlt => ?_) (fun hge => ?_) | refine cond rfl (fun hlt => ?_) (fun hge => ?_)
  · try simp only [Bool.and_eq_true, Bool.or_eq_true, Bool.or_eq_false_iff, Bool.and_eq_false_iff, Bool.not_eq_true', Bool.not_eq_false', decide_eq_true_eq, decide_eq_false_iff_not, Decidable.not_not] at hlt
    refine skip ?_
    refine pN ?_
    refine seq ?_
    refine block ?_
    refine seq ?_
    refine region ?_
    refine cons (opv (Ev.indexAddr Try.underlying41 ty31 (.t rfl) (.t rfl) (by first | exact isSl_own (by repeat first | exact mH | apply mT | apply mA) | exact fun w I => IsSl.keep0 (by assumption) I.keeps) (fun _ => ⟨by omega, by show k < 2; omega⟩)) ?_)
    refine cons (opv (Ev.loadS0 ty31 (.t rfl) (by first | exact isSl_own (by repeat first | exact mH | apply mT | apply mA) | exact fun w I => IsSl.keep0 (by assumption) I.keeps) (fun _ => ⟨by omega, by show k < 2; omega⟩)) ?_)
    refine cons (alloc z31 (fun b6 => ?_))
    refine cons (storeV ty31 (Lens.id _) (.t rfl) (.t rfl) (by repeat first | exact Upd.head | apply Upd.tail | apply Upd.right) ?_)
    refine nil ?_
    refine pN ?_
    refine seq ?_
    refine seq ?_
    refine region ?_
    have t1 := ((SMatch.l_in_.comp SSpan.l_from_).get ((Lens.id eMatch).set eMatch.zero ([m, n].getD k.toNat eMatch.zero))).toNat_lt
    have t2 := ((SMatch.l_in_.comp SSpan.l_to_).get ((Lens.id eMatch).set eMatch.zero ([m, n].getD k.toNat eMatch.zero))).toNat_lt
    refine cons (opv (Ev.fieldAddr (o := 1) (.t rfl) (by kernel_rfl)) ?_)
    refine cons (opv (Ev.fieldAddr (o := 0) (.t rfl) (by kernel_rfl)) ?_)
    refine cons (opv (Ev.load ty22 (.t rfl) (ptsVar (by repeat first | exact mH | apply mT | apply mA) (Lens.comp SMatch.l_in_ SSpan.l_from_))) ?_)
    refine cons (opv (Ev.conv_u16_i Try.underlying3 Try.underlying22 (.t rfl)) ?_)
    refine cons (opv (Ev.fieldAddr (o := 1) (.t rfl) (by kernel_rfl)) ?_)
    refine cons (opv (Ev.fieldAddr (o := 0) (.t rfl) (by kernel_rfl)) ?_)
    refine cons (opv (Ev.load ty22 (.t rfl) (ptsVar (by repeat first | exact mH | apply mT | apply mA) (Lens.comp SMatch.l_in_ SSpan.l_from_))) ?_)
    refine cons (opv (Ev.conv_u16_i Try.underlying3 Try.underlying22 (.t rfl)) ?_)
    refine cons (opv (Ev.sub_i (.t rfl) (.c (v := I 1) rfl) (fun _ => by omega)) ?_)
    refine cons (opv (Ev.fieldAddr (o := 1) (.t rfl) (by kernel_rfl)) ?_)
    refine cons (opv (Ev.fieldAddr (o := 1) (.t rfl) (by kernel_rfl)) ?_)
    refine cons (opv (Ev.load ty22 (.t rfl) (ptsVar (by repeat first | exact mH | apply mT | apply mA) (Lens.comp SMatch.l_in_ SSpan.l_to_))) ?_)
    refine cons (opv (Ev.conv_u16_i Try.underlying3 Try.underlying22 (.t rfl)) ?_)
    refine cons (opv (Ev.fieldAddr (o := 1) (.t rfl) (by kernel_rfl)) ?_)
    refine cons (opv (Ev.fieldAddr (o := 1) (.t rfl) (by kernel_rfl)) ?_)
    refine cons (opv (Ev.load ty22 (.t rfl) (ptsVar (by repeat first | exact mH | apply mT | apply mA) (Lens.comp SMatch.l_in_ SSpan.l_to_))) ?_)
    refine cons (opv (Ev.conv_u16_i Try.underlying3 Try.underlying22 (.t rfl)) ?_)
    refine cons (opv (Ev.add_i (.t rfl) (.c (v := I 1) rfl) (fun _ => by omega)) ?_)
    refine cons (buildSlice (E := iE) Try.underlying46 ty3 z3 (.cons (.t rfl) (.cons (.t rfl) (.cons (.t rfl) (.cons (.t rfl) (.cons (.c (v := I 0) rfl) (.cons (.c (v := I 255) rfl) .nil)))))) rfl rfl (fun v7 => ?_))
    refine cons (opv (Ev.len Try.underlying46 (.t rfl) (by first | exact isSl_own (by repeat first | exact mH | apply mT | apply mA) | exact fun w I => IsSl.keep0 (by assumption) I.keeps)) ?_)
    refine cons (opv (Ev.move (.c (v := I 0) rfl)) ?_)
    refine nil ?_
    refine pN ?_
    refine block ?_
    refine loop (X := Int × OV × (List SLaw19Came)) (fun x : Int × OV × (List SLaw19Came) => (0 ≤ x.1 ∧ x.1 ≤ 6) ∧ (x.2.2 = xs ++ ((insL ([m, n].getD k.toNat eMatch.zero)).take x.1.toNat).map (inE b))) (fun x : Int × OV × (List SLaw19Came) => [(3, true, .bool v), (4, true, .pointer (some ⟨b1, 0, none⟩)), (35, true, v5.v), (36, true, I 2), (37, true, I k), (9, true, x.2.1.v), (11, true, .pointer (some ⟨b6, 0, none⟩)), (59, true, v7.v), (60, true, I 6), (61, true, I x.1)]) (fun x : Int × OV × (List SLaw19Came) => [OwnS v7.v iE (insL ([m, n].getD k.toNat eMatch.zero)) 3, Var b6 eMatch ([m, n].getD k.toNat eMatch.zero) 31, OwnS v5.v eMatch [m, n] 31, OwnS x.2.1.v eLaw19Came x.2.2 49, Var b1 eLaw19Came b 49]) (fun x : Int × OV × (List SLaw19Came) => (6 - x.1).toNat) (0, o, xs) ⟨?_, ?_⟩ (by repeat first | exact Sub.nil | refine Sub.cons rfl ?_) (by repeat first | exact sR | exact sN | apply sC | apply sS | apply sA) (fun x hx => ?_)
    · omega
    · simp
    obtain ⟨j1, o1, y1⟩ := x
    obtain ⟨hj1, hy1⟩ : (0 ≤ j1 ∧ j1 ≤ 6) ∧ (y1 = xs ++ ((insL ([m, n].getD k.toNat eMatch.zero)).take j1.toNat).map (inE b)) := hx
    show Sat _ _ [(3, true, .bool v), (4, true, .pointer (some ⟨b1, 0, none⟩)), (35, true, v5.v), (36, true, I 2), (37, true, I k), (9, true, o1.v), (11, true, .pointer (some ⟨b6, 0, none⟩)), (59, true, v7.v), (60, true, I 6), (61, true, I j1)] [OwnS v7.v iE (insL ([m, n].getD k.toNat eMatch.zero)) 3, Var b6 eMatch ([m, n].getD k.toNat eMatch.zero) 31, OwnS v5.v eMatch [m, n] 31, OwnS o1.v eLaw19Came y1 49, Var b1 eLaw19Came b 49]
    have ly1 : y1.length ≤ xs.length + 6 := by
      rw [hy1, List.length_append]
      have q2 : ((insL ([m, n].getD k.toNat eMatch.zero)).take j1.toNat).length ≤ 6 := by rw [List.length_take]; exact Nat.min_le_right _ _
      rw [List.length_map]
      omega
    refine seq ?_
    refine region ?_
    refine cons (opv (Ev.lss_i (.t rfl) (.t rfl)) ?_)
    refine nil ?_
    refine pN ?_
    refine seq ?_
    first | refine condD rfl (fun hlt => ?_) (fun hge => ?_) | refine cond rfl (fun hlt => ?_) (fun hge => ?_)
    · try simp only [Bool.and_eq_true, Bool.or_eq_true, Bool.or_eq_false_iff, Bool.and_eq_false_iff, Bool.not_eq_true', Bool.not_eq_false', decide_eq_true_eq, decide_eq_false_iff_not, Decidable.not_not] at hlt
      refine skip ?_
      refine pN ?_
      refine seq ?_
      refine block ?_
      refine seq ?_
      refine region ?_
      refine cons (opv (Ev.indexAddr Try.underlying46 ty3 (.t rfl) (.t rfl) (by first | exact isSl_own (by repeat first | exact mH | apply mT | apply mA) | exact fun w I => IsSl.keep0 (by assumption) I.keeps) (fun _ => ⟨by omega, by show j1 < 6; omega⟩)) ?_)
      refine cons (opv (Ev.loadS0 ty3 (.t rfl) (by first | exact isSl_own (by repeat first | exact mH | apply mT | apply mA) | exact fun w I => IsSl.keep0 (by assumption) I.keeps) (fun _ => ⟨by omega, by show j1 < 6; omega⟩)) ?_)
      refine cons (opv (Ev.assign (.t rfl)) ?_)
      refine nil ?_
      refine pN ?_
      refine seq ?_
      refine region ?_
      refine cons (opv (Ev.load (xv := b) ty49 (.t rfl) (ptsVar (by repeat first | exact mH | apply mT | apply mA) (Lens.id _))) ?_)
      refine cons (alloc z49 (fun b8 => ?_))
      refine cons (storeV ty49 (Lens.id _) (.t rfl) (.t rfl) (by repeat first | exact Upd.head | apply Upd.tail | apply Upd.right) ?_)
      refine nil ?_
      refine pN ?_
      refine seq ?_
      refine region ?_
      refine cons (opv (Ev.move (.t rfl)) ?_)
      refine cons (opv (Ev.fieldAddr (o := 0) (.t rfl) (by kernel_rfl)) ?_)
      refine cons (storeV ty3 SLaw19Came.l_in_ (.t rfl) (.t rfl) (by repeat first | exact Upd.head | apply Upd.tail | apply Upd.right) ?_)
      refine nil ?_
      refine pN ?_
      refine region ?_
      refine cons (opv (Ev.move (.t rfl)) ?_)
      refine cons (opv (Ev.load ty49 (.t rfl) (ptsVar (by repeat first | exact mH | apply mT | apply mA) (Lens.id _))) ?_)
      refine cons (buildSlice (E := eLaw19Came) Try.underlying42 ty49 z49 (.cons (.t rfl) .nil) rfl rfl (fun v9 => ?_))
      refine cons (append (E := eLaw19Came) Try.underlying42 ty49 rfl zb49 zs49 (.t rfl) (.t rfl) (fun _ => by repeat first | exact Upd.head | apply Upd.tail | apply Upd.right) (by first | exact isSl_own (by repeat first | exact mH | apply mT | apply mA) | exact fun w I => IsSl.keep0 (by assumption) I.keeps) (⟨by show _ + 1 ≤ 9223372036854775807; omega, by show (_ + 1) * _ ≤ _; omega⟩) (fun v10 => ?_))
      refine cons (opv (Ev.assign (.t rfl)) ?_)
      refine nil ?_
      refine bN ?_
      refine pN ?_
      refine region ?_
      refine cons (opv (Ev.add_i (.t rfl) (.c (v := I 1) rfl) (fun _ => by omega)) ?_)
      refine cons (opv (Ev.move (.t rfl)) ?_)
      refine nil ?_
      refine pN ?_
      refine next (X := Int × OV × (List SLaw19Came)) (j1 + 1, _, _) ⟨?_, ?_⟩ ?_ (by repeat first | exact Sub.nil | refine Sub.cons rfl ?_) (by repeat first | exact sR | exact sN | apply sC | apply sS | apply sA)
      · try dsimp only
        omega
      · try dsimp only
        rw [map_snoc _ _ j1 hj1.1 (by show j1 < 6; omega) iE.zero, hy1, List.append_assoc]
        rfl
      · try dsimp only
        omega
    · try simp only [Bool.and_eq_true, Bool.or_eq_true, Bool.or_eq_false_iff, Bool.and_eq_false_iff, Bool.not_eq_true', Bool.not_eq_false', decide_eq_true_eq, decide_eq_false_iff_not, Decidable.not_not] at hge
      rw [take_len (insL ([m, n].getD k.toNat eMatch.zero)) j1 (by show (6 : Int) ≤ j1; omega)] at hy1
      refine exit ?_
      refine pX ?_
      refine pX ?_
      refine bX ?_
      refine pN ?_
      refine seq ?_
      refine seq ?_
      refine region ?_
      refine cons (opv (Ev.fieldAddr (o := 40) (.t rfl) (by kernel_rfl)) ?_)
      refine cons (opv (Ev.fieldAddr (o := 0) (.t rfl) (by kernel_rfl)) ?_)
      refine cons (opv (Ev.load ty22 (.t rfl) (ptsVar (by repeat first | exact mH | apply mT | apply mA) (Lens.comp SMatch.l_srcPort SSpan.l_from_))) ?_)
      refine cons (opv (Ev.fieldAddr (o := 40) (.t rfl) (by kernel_rfl)) ?_)
      refine cons (opv (Ev.fieldAddr (o := 0) (.t rfl) (by kernel_rfl)) ?_)
      refine cons (opv (Ev.load ty22 (.t rfl) (ptsVar (by repeat first | exact mH | apply mT | apply mA) (Lens.comp SMatch.l_srcPort SSpan.l_from_))) ?_)
      refine cons (opv (Ev.sub_u16 (.t rfl) (.c (v := U16 1) rfl)) ?_)
      refine cons (opv (Ev.fieldAddr (o := 40) (.t rfl) (by kernel_rfl)) ?_)
      refine cons (opv (Ev.fieldAddr (o := 1) (.t rfl) (by kernel_rfl)) ?_)
      refine cons (opv (Ev.load ty22 (.t rfl) (ptsVar (by repeat first | exact mH | apply mT | apply mA) (Lens.comp SMatch.l_srcPort SSpan.l_to_))) ?_)
      refine cons (opv (Ev.fieldAddr (o := 40) (.t rfl) (by kernel_rfl)) ?_)
      refine cons (opv (Ev.fieldAddr (o := 1) (.t rfl) (by kernel_rfl)) ?_)
      refine cons (opv (Ev.load ty22 (.t rfl) (ptsVar (by repeat first | exact mH | apply mT | apply mA) (Lens.comp SMatch.l_srcPort SSpan.l_to_))) ?_)
      refine cons (opv (Ev.add_u16 (.t rfl) (.c (v := U16 1) rfl)) ?_)
      refine cons (buildSlice (E := u16E) Try.underlying101 ty22 z22 (.cons (.t rfl) (.cons (.t rfl) (.cons (.t rfl) (.cons (.t rfl) (.cons (.c (v := U16 0) rfl) (.cons (.c (v := U16 65535) rfl) .nil)))))) rfl rfl (fun v11 => ?_))
      refine cons (opv (Ev.len Try.underlying101 (.t rfl) (by first | exact isSl_own (by repeat first | exact mH | apply mT | apply mA) | exact fun w I => IsSl.keep0 (by assumption) I.keeps)) ?_)
      refine cons (opv (Ev.move (.c (v := I 0) rfl)) ?_)
      refine nil ?_
      refine pN ?_
      refine block ?_
      refine loop (X := Int × OV × (List SLaw19Came)) (fun x : Int × OV × (List SLaw19Came) => (0 ≤ x.1 ∧ x.1 ≤ 6) ∧ (x.2.2 = y1 ++ ((ptsLst ([m, n].getD k.toNat eMatch.zero).srcPort).take x.1.toNat).map (spE b))) (fun x : Int × OV × (List SLaw19Came) => [(3, true, .bool v), (4, true, .pointer (some ⟨b1, 0, none⟩)), (35, true, v5.v), (36, true, I 2), (37, true, I k), (9, true, x.2.1.v), (11, true, .pointer (some ⟨b6, 0, none⟩)), (87, true, v11.v), (88, true, I 6), (89, true, I x.1)]) (fun x : Int × OV × (List SLaw19Came) => [OwnS v11.v u16E (ptsLst ([m, n].getD k.toNat eMatch.zero).srcPort) 22, Var b6 eMatch ([m, n].getD k.toNat eMatch.zero) 31, OwnS v5.v eMatch [m, n] 31, OwnS x.2.1.v eLaw19Came x.2.2 49, Var b1 eLaw19Came b 49]) (fun x : Int × OV × (List SLaw19Came) => (6 - x.1).toNat) (0, o1, y1) ⟨?_, ?_⟩ (by repeat first | exact Sub.nil | refine Sub.cons rfl ?_) (by repeat first | exact sR | exact sN | apply sC | apply sS | apply sA) (fun x hx => ?_)
      · omega
      · simp
      obtain ⟨j2, o2, y2⟩ := x
      obtain ⟨hj2, hy2⟩ : (0 ≤ j2 ∧ j2 ≤ 6) ∧ (y2 = y1 ++ ((ptsLst ([m, n].getD k.toNat eMatch.zero).srcPort).take j2.toNat).map (spE b)) := hx
      show Sat _ _ [(3, true, .bool v), (4, true, .pointer (some ⟨b1, 0, none⟩)), (35, true, v5.v), (36, true, I 2), (37, true, I k), (9, true, o2.v), (11, true, .pointer (some ⟨b6, 0, none⟩)), (87, true, v11.v), (88, true, I 6), (89, true, I j2)] [OwnS v11.v u16E (ptsLst ([m, n].getD k.toNat eMatch.zero).srcPort) 22, Var b6 eMatch ([m, n].getD k.toNat eMatch.zero) 31, OwnS v5.v eMatch [m, n] 31, OwnS o2.v eLaw19Came y2 49, Var b1 eLaw19Came b 49]
      have ly2 : y2.length ≤ y1.length + 6 := by
        rw [hy2, List.length_append]
        have q2 : ((ptsLst ([m, n].getD k.toNat eMatch.zero).srcPort).take j2.toNat).length ≤ 6 := by rw [List.length_take]; exact Nat.min_le_right _ _
        rw [List.length_map]
        omega
      refine seq ?_
      refine region ?_
      refine cons (opv (Ev.lss_i (.t rfl) (.t rfl)) ?_)
      refine nil ?_
      refine pN ?_
      refine seq ?_
      first | refine condD rfl (fun hlt => ?_) (fun hge => ?_) | refine cond rfl (fun hlt => ?_) (fun hge => ?_)
      · try simp only [Bool.and_eq_true, Bool.or_eq_true, Bool.or_eq_false_iff, Bool.and_eq_false_iff, Bool.not_eq_true', Bool.not_eq_false', decide_eq_true_eq, decide_eq_false_iff_not, Decidable.not_not] at hlt
        refine skip ?_
        refine pN ?_
        refine seq ?_
        refine block ?_
        refine seq ?_
        refine region ?_
        refine cons (opv (Ev.indexAddr Try.underlying101 ty22 (.t rfl) (.t rfl) (by first | exact isSl_own (by repeat first | exact mH | apply mT | apply mA) | exact fun w I => IsSl.keep0 (by assumption) I.keeps) (fun _ => ⟨by omega, by show j2 < 6; omega⟩)) ?_)
        refine cons (opv (Ev.loadS0 ty22 (.t rfl) (by first | exact isSl_own (by repeat first | exact mH | apply mT | apply mA) | exact fun w I => IsSl.keep0 (by assumption) I.keeps) (fun _ => ⟨by omega, by show j2 < 6; omega⟩)) ?_)
        refine cons (opv (Ev.assign (.t rfl)) ?_)
        refine nil ?_
        refine pN ?_
        refine seq ?_
        refine region ?_
        refine cons (opv (Ev.load (xv := b) ty49 (.t rfl) (ptsVar (by repeat first | exact mH | apply mT | apply mA) (Lens.id _))) ?_)
        refine cons (alloc z49 (fun b12 => ?_))
        refine cons (storeV ty49 (Lens.id _) (.t rfl) (.t rfl) (by repeat first | exact Upd.head | apply Upd.tail | apply Upd.right) ?_)
        refine nil ?_
        refine pN ?_
        refine seq ?_
        refine region ?_
        refine cons (opv (Ev.move (.t rfl)) ?_)
        refine cons (opv (Ev.fieldAddr (o := 1) (.t rfl) (by kernel_rfl)) ?_)
        refine cons (opv (Ev.fieldAddr (o := 35) (.t rfl) (by kernel_rfl)) ?_)
        refine cons (storeV ty22 (Lens.comp SLaw19Came.l_h SHeader.l_srcPort) (.t rfl) (.t rfl) (by repeat first | exact Upd.head | apply Upd.tail | apply Upd.right) ?_)
        refine nil ?_
        refine pN ?_
        refine region ?_
        refine cons (opv (Ev.move (.t rfl)) ?_)
        refine cons (opv (Ev.load ty49 (.t rfl) (ptsVar (by repeat first | exact mH | apply mT | apply mA) (Lens.id _))) ?_)
        refine cons (buildSlice (E := eLaw19Came) Try.underlying42 ty49 z49 (.cons (.t rfl) .nil) rfl rfl (fun v13 => ?_))
        refine cons (append (E := eLaw19Came) Try.underlying42 ty49 rfl zb49 zs49 (.t rfl) (.t rfl) (fun _ => by repeat first | exact Upd.head | apply Upd.tail | apply Upd.right) (by first | exact isSl_own (by repeat first | exact mH | apply mT | apply mA) | exact fun w I => IsSl.keep0 (by assumption) I.keeps) (⟨by show _ + 1 ≤ 9223372036854775807; omega, by show (_ + 1) * _ ≤ _; omega⟩) (fun v14 => ?_))
        refine cons (opv (Ev.assign (.t rfl)) ?_)
        refine nil ?_
        refine bN ?_
        refine pN ?_
        refine region ?_
        refine cons (opv (Ev.add_i (.t rfl) (.c (v := I 1) rfl) (fun _ => by omega)) ?_)
        refine cons (opv (Ev.move (.t rfl)) ?_)
        refine nil ?_
        refine pN ?_
        refine next (X := Int × OV × (List SLaw19Came)) (j2 + 1, _, _) ⟨?_, ?_⟩ ?_ (by repeat first | exact Sub.nil | refine Sub.cons rfl ?_) (by repeat first | exact sR | exact sN | apply sC | apply sS | apply sA)
        · try dsimp only
          omega
        · try dsimp only
          rw [map_snoc _ _ j2 hj2.1 (by show j2 < 6; omega) u16E.zero, hy2, List.append_assoc]
          rfl
        · try dsimp only
          omega
      · try simp only [Bool.and_eq_true, Bool.or_eq_true, Bool.or_eq_false_iff, Bool.and_eq_false_iff, Bool.not_eq_true', Bool.not_eq_false', decide_eq_true_eq, decide_eq_false_iff_not, Decidable.not_not] at hge
        rw [take_len (ptsLst ([m, n].getD k.toNat eMatch.zero).srcPort) j2 (by show (6 : Int) ≤ j2; omega)] at hy2
        refine exit ?_
        refine pX ?_
        refine pX ?_
        refine bX ?_
        refine pN ?_
        refine seq ?_
        refine seq ?_
        refine region ?_
        refine cons (opv (Ev.fieldAddr (o := 42) (.t rfl) (by kernel_rfl)) ?_)
        refine cons (opv (Ev.fieldAddr (o := 0) (.t rfl) (by kernel_rfl)) ?_)
        refine cons (opv (Ev.load ty22 (.t rfl) (ptsVar (by repeat first | exact mH | apply mT | apply mA) (Lens.comp SMatch.l_dstPort SSpan.l_from_))) ?_)
        refine cons (opv (Ev.fieldAddr (o := 42) (.t rfl) (by kernel_rfl)) ?_)
        refine cons (opv (Ev.fieldAddr (o := 0) (.t rfl) (by kernel_rfl)) ?_)
        refine cons (opv (Ev.load ty22 (.t rfl) (ptsVar (by repeat first | exact mH | apply mT | apply mA) (Lens.comp SMatch.l_dstPort SSpan.l_from_))) ?_)
        refine cons (opv (Ev.sub_u16 (.t rfl) (.c (v := U16 1) rfl)) ?_)
        refine cons (opv (Ev.fieldAddr (o := 42) (.t rfl) (by kernel_rfl)) ?_)
        refine cons (opv (Ev.fieldAddr (o := 1) (.t rfl) (by kernel_rfl)) ?_)
        refine cons (opv (Ev.load ty22 (.t rfl) (ptsVar (by repeat first | exact mH | apply mT | apply mA) (Lens.comp SMatch.l_dstPort SSpan.l_to_))) ?_)
        refine cons (opv (Ev.fieldAddr (o := 42) (.t rfl) (by kernel_rfl)) ?_)
        refine cons (opv (Ev.fieldAddr (o := 1) (.t rfl) (by kernel_rfl)) ?_)
        refine cons (opv (Ev.load ty22 (.t rfl) (ptsVar (by repeat first | exact mH | apply mT | apply mA) (Lens.comp SMatch.l_dstPort SSpan.l_to_))) ?_)
        refine cons (opv (Ev.add_u16 (.t rfl) (.c (v := U16 1) rfl)) ?_)
        refine cons (buildSlice (E := u16E) Try.underlying101 ty22 z22 (.cons (.t rfl) (.cons (.t rfl) (.cons (.t rfl) (.cons (.t rfl) (.cons (.c (v := U16 0) rfl) (.cons (.c (v := U16 65535) rfl) .nil)))))) rfl rfl (fun v15 => ?_))
        refine cons (opv (Ev.len Try.underlying101 (.t rfl) (by first | exact isSl_own (by repeat first | exact mH | apply mT | apply mA) | exact fun w I => IsSl.keep0 (by assumption) I.keeps)) ?_)
        refine cons (opv (Ev.move (.c (v := I 0) rfl)) ?_)
        refine nil ?_
        refine pN ?_
        refine block ?_
        refine loop (X := Int × OV × (List SLaw19Came)) (fun x : Int × OV × (List SLaw19Came) => (0 ≤ x.1 ∧ x.1 ≤ 6) ∧ (x.2.2 = y2 ++ ((ptsLst ([m, n].getD k.toNat eMatch.zero).dstPort).take x.1.toNat).map (dpE b))) (fun x : Int × OV × (List SLaw19Came) => [(3, true, .bool v), (4, true, .pointer (some ⟨b1, 0, none⟩)), (35, true, v5.v), (36, true, I 2), (37, true, I k), (9, true, x.2.1.v), (11, true, .pointer (some ⟨b6, 0, none⟩)), (116, true, v15.v), (117, true, I 6), (118, true, I x.1)]) (fun x : Int × OV × (List SLaw19Came) => [OwnS v15.v u16E (ptsLst ([m, n].getD k.toNat eMatch.zero).dstPort) 22, Var b6 eMatch ([m, n].getD k.toNat eMatch.zero) 31, OwnS v5.v eMatch [m, n] 31, OwnS x.2.1.v eLaw19Came x.2.2 49, Var b1 eLaw19Came b 49]) (fun x : Int × OV × (List SLaw19Came) => (6 - x.1).toNat) (0, o2, y2) ⟨?_, ?_⟩ (by repeat first | exact Sub.nil | refine Sub.cons rfl ?_) (by repeat first | exact sR | exact sN | apply sC | apply sS | apply sA) (fun x hx => ?_)
        · omega
        · simp
        obtain ⟨j3, o3, y3⟩ := x
        obtain ⟨hj3, hy3⟩ : (0 ≤ j3 ∧ j3 ≤ 6) ∧ (y3 = y2 ++ ((ptsLst ([m, n].getD k.toNat eMatch.zero).dstPort).take j3.toNat).map (dpE b)) := hx
        show Sat _ _ [(3, true, .bool v), (4, true, .pointer (some ⟨b1, 0, none⟩)), (35, true, v5.v), (36, true, I 2), (37, true, I k), (9, true, o3.v), (11, true, .pointer (some ⟨b6, 0, none⟩)), (116, true, v15.v), (117, true, I 6), (118, true, I j3)] [OwnS v15.v u16E (ptsLst ([m, n].getD k.toNat eMatch.zero).dstPort) 22, Var b6 eMatch ([m, n].getD k.toNat eMatch.zero) 31, OwnS v5.v eMatch [m, n] 31, OwnS o3.v eLaw19Came y3 49, Var b1 eLaw19Came b 49]
        have ly3 : y3.length ≤ y2.length + 6 := by
          rw [hy3, List.length_append]
          have q2 : ((ptsLst ([m, n].getD k.toNat eMatch.zero).dstPort).take j3.toNat).length ≤ 6 := by rw [List.length_take]; exact Nat.min_le_right _ _
          rw [List.length_map]
          omega
        refine seq ?_
        refine region ?_
        refine cons (opv (Ev.lss_i (.t rfl) (.t rfl)) ?_)
        refine nil ?_
        refine pN ?_
        refine seq ?_
        first | refine condD rfl (fun hlt => ?_) (fun hge => ?_) | refine cond rfl (fun hlt => ?_) (fun hge => ?_)
        · try simp only [Bool.and_eq_true, Bool.or_eq_true, Bool.or_eq_false_iff, Bool.and_eq_false_iff, Bool.not_eq_true', Bool.not_eq_false', decide_eq_true_eq, decide_eq_false_iff_not, Decidable.not_not] at hlt
          refine skip ?_
          refine pN ?_
          refine seq ?_
          refine block ?_
          refine seq ?_
          refine region ?_
          refine cons (opv (Ev.indexAddr Try.underlying101 ty22 (.t rfl) (.t rfl) (by first | exact isSl_own (by repeat first | exact mH | apply mT | apply mA) | exact fun w I => IsSl.keep0 (by assumption) I.keeps) (fun _ => ⟨by omega, by show j3 < 6; omega⟩)) ?_)
          refine cons (opv (Ev.loadS0 ty22 (.t rfl) (by first | exact isSl_own (by repeat first | exact mH | apply mT | apply mA) | exact fun w I => IsSl.keep0 (by assumption) I.keeps) (fun _ => ⟨by omega, by show j3 < 6; omega⟩)) ?_)
          refine cons (opv (Ev.assign (.t rfl)) ?_)
          refine nil ?_
          refine pN ?_
          refine seq ?_
          refine region ?_
          refine cons (opv (Ev.load (xv := b) ty49 (.t rfl) (ptsVar (by repeat first | exact mH | apply mT | apply mA) (Lens.id _))) ?_)
          refine cons (alloc z49 (fun b16 => ?_))
          refine cons (storeV ty49 (Lens.id _) (.t rfl) (.t rfl) (by repeat first | exact Upd.head | apply Upd.tail | apply Upd.right) ?_)
          refine nil ?_
          refine pN ?_
          refine seq ?_
          refine region ?_
          refine cons (opv (Ev.move (.t rfl)) ?_)
          refine cons (opv (Ev.fieldAddr (o := 1) (.t rfl) (by kernel_rfl)) ?_)
          refine cons (opv (Ev.fieldAddr (o := 36) (.t rfl) (by kernel_rfl)) ?_)
          refine cons (storeV ty22 (Lens.comp SLaw19Came.l_h SHeader.l_dstPort) (.t rfl) (.t rfl) (by repeat first | exact Upd.head | apply Upd.tail | apply Upd.right) ?_)
          refine nil ?_
          refine pN ?_
          refine region ?_
          refine cons (opv (Ev.move (.t rfl)) ?_)
          refine cons (opv (Ev.load ty49 (.t rfl) (ptsVar (by repeat first | exact mH | apply mT | apply mA) (Lens.id _))) ?_)
          refine cons (buildSlice (E := eLaw19Came) Try.underlying42 ty49 z49 (.cons (.t rfl) .nil) rfl rfl (fun v17 => ?_))
          refine cons (append (E := eLaw19Came) Try.underlying42 ty49 rfl zb49 zs49 (.t rfl) (.t rfl) (fun _ => by repeat first | exact Upd.head | apply Upd.tail | apply Upd.right) (by first | exact isSl_own (by repeat first | exact mH | apply mT | apply mA) | exact fun w I => IsSl.keep0 (by assumption) I.keeps) (⟨by show _ + 1 ≤ 9223372036854775807; omega, by show (_ + 1) * _ ≤ _; omega⟩) (fun v18 => ?_))
          refine cons (opv (Ev.assign (.t rfl)) ?_)
          refine nil ?_
          refine bN ?_
          refine pN ?_
          refine region ?_
          refine cons (opv (Ev.add_i (.t rfl) (.c (v := I 1) rfl) (fun _ => by omega)) ?_)
          refine cons (opv (Ev.move (.t rfl)) ?_)
          refine nil ?_
          refine pN ?_
          refine next (X := Int × OV × (List SLaw19Came)) (j3 + 1, _, _) ⟨?_, ?_⟩ ?_ (by repeat first | exact Sub.nil | refine Sub.cons rfl ?_) (by repeat first | exact sR | exact sN | apply sC | apply sS | apply sA)
          · try dsimp only
            omega
          · try dsimp only
            rw [map_snoc _ _ j3 hj3.1 (by show j3 < 6; omega) u16E.zero, hy3, List.append_assoc]
            rfl
          · try dsimp only
            omega
        · try simp only [Bool.and_eq_true, Bool.or_eq_true, Bool.or_eq_false_iff, Bool.and_eq_false_iff, Bool.not_eq_true', Bool.not_eq_false', decide_eq_true_eq, decide_eq_false_iff_not, Decidable.not_not] at hge
          rw [take_len (ptsLst ([m, n].getD k.toNat eMatch.zero).dstPort) j3 (by show (6 : Int) ≤ j3; omega)] at hy3
          refine exit ?_
          refine pX ?_
          refine pX ?_
          refine bX ?_
          refine pN ?_
          refine seq ?_
          refine seq ?_
          refine region ?_
          refine cons (opv (Ev.fieldAddr (o := 39) (.t rfl) (by kernel_rfl)) ?_)
          refine cons (opv (Ev.load ty5 (.t rfl) (ptsVar (by repeat first | exact mH | apply mT | apply mA) SMatch.l_proto)) ?_)
          refine cons (opv (Ev.fieldAddr (o := 39) (.t rfl) (by kernel_rfl)) ?_)
          refine cons (opv (Ev.load ty5 (.t rfl) (ptsVar (by repeat first | exact mH | apply mT | apply mA) SMatch.l_proto)) ?_)
          refine cons (opv (Ev.add_u8 (.t rfl) (.c (v := U8 1) rfl)) ?_)
          refine cons (buildSlice (E := u8E) Try.underlying33 ty5 z5 (.cons (.t rfl) (.cons (.t rfl) (.cons (.c (v := U8 6) rfl) (.cons (.c (v := U8 17) rfl) .nil)))) rfl rfl (fun v19 => ?_))
          refine cons (opv (Ev.len Try.underlying33 (.t rfl) (by first | exact isSl_own (by repeat first | exact mH | apply mT | apply mA) | exact fun w I => IsSl.keep0 (by assumption) I.keeps)) ?_)
          refine cons (opv (Ev.move (.c (v := I 0) rfl)) ?_)
          refine nil ?_
          refine pN ?_
          refine block ?_
          refine loop (X := Int × OV × (List SLaw19Came)) (fun x : Int × OV × (List SLaw19Came) => (0 ≤ x.1 ∧ x.1 ≤ 4) ∧ (x.2.2 = y3 ++ ((prsL ([m, n].getD k.toNat eMatch.zero).proto).take x.1.toNat).map (prE b))) (fun x : Int × OV × (List SLaw19Came) => [(3, true, .bool v), (4, true, .pointer (some ⟨b1, 0, none⟩)), (35, true, v5.v), (36, true, I 2), (37, true, I k), (9, true, x.2.1.v), (11, true, .pointer (some ⟨b6, 0, none⟩)), (136, true, v19.v), (137, true, I 4), (138, true, I x.1)]) (fun x : Int × OV × (List SLaw19Came) => [OwnS v19.v u8E (prsL ([m, n].getD k.toNat eMatch.zero).proto) 5, Var b6 eMatch ([m, n].getD k.toNat eMatch.zero) 31, OwnS v5.v eMatch [m, n] 31, OwnS x.2.1.v eLaw19Came x.2.2 49, Var b1 eLaw19Came b 49]) (fun x : Int × OV × (List SLaw19Came) => (4 - x.1).toNat) (0, o3, y3) ⟨?_, ?_⟩ (by repeat first | exact Sub.nil | refine Sub.cons rfl ?_) (by repeat first | exact sR | exact sN | apply sC | apply sS | apply sA) (fun x hx => ?_)
          · omega
          · simp
          obtain ⟨j4, o4, y4⟩ := x
          obtain ⟨hj4, hy4⟩ : (0 ≤ j4 ∧ j4 ≤ 4) ∧ (y4 = y3 ++ ((prsL ([m, n].getD k.toNat eMatch.zero).proto).take j4.toNat).map (prE b)) := hx
          show Sat _ _ [(3, true, .bool v), (4, true, .pointer (some ⟨b1, 0, none⟩)), (35, true, v5.v), (36, true, I 2), (37, true, I k), (9, true, o4.v), (11, true, .pointer (some ⟨b6, 0, none⟩)), (136, true, v19.v), (137, true, I 4), (138, true, I j4)] [OwnS v19.v u8E (prsL ([m, n].getD k.toNat eMatch.zero).proto) 5, Var b6 eMatch ([m, n].getD k.toNat eMatch.zero) 31, OwnS v5.v eMatch [m, n] 31, OwnS o4.v eLaw19Came y4 49, Var b1 eLaw19Came b 49]
          have ly4 : y4.length ≤ y3.length + 4 := by
            rw [hy4, List.length_append]
            have q2 : ((prsL ([m, n].getD k.toNat eMatch.zero).proto).take j4.toNat).length ≤ 4 := by rw [List.length_take]; exact Nat.min_le_right _ _
            rw [List.length_map]
            omega
          refine seq ?_
          refine region ?_
          refine cons (opv (Ev.lss_i (.t rfl) (.t rfl)) ?_)
          refine nil ?_
          refine pN ?_
          refine seq ?_
          first | refine condD rfl (fun hlt => ?_) (fun hge => ?_) | refine cond rfl (fun hlt => ?_) (fun hge => ?_)
          · try simp only [Bool.and_eq_true, Bool.or_eq_true, Bool.or_eq_false_iff, Bool.and_eq_false_iff, Bool.not_eq_true', Bool.not_eq_false', decide_eq_true_eq, decide_eq_false_iff_not, Decidable.not_not] at hlt
            refine skip ?_
            refine pN ?_
            refine seq ?_
            refine block ?_
            refine seq ?_
            refine region ?_
            refine cons (opv (Ev.indexAddr Try.underlying33 ty5 (.t rfl) (.t rfl) (by first | exact isSl_own (by repeat first | exact mH | apply mT | apply mA) | exact fun w I => IsSl.keep0 (by assumption) I.keeps) (fun _ => ⟨by omega, by show j4 < 4; omega⟩)) ?_)
            refine cons (opv (Ev.loadS0 ty5 (.t rfl) (by first | exact isSl_own (by repeat first | exact mH | apply mT | apply mA) | exact fun w I => IsSl.keep0 (by assumption) I.keeps) (fun _ => ⟨by omega, by show j4 < 4; omega⟩)) ?_)
            refine cons (opv (Ev.assign (.t rfl)) ?_)
            refine nil ?_
            refine pN ?_
            refine seq ?_
            refine region ?_
            refine cons (opv (Ev.load (xv := b) ty49 (.t rfl) (ptsVar (by repeat first | exact mH | apply mT | apply mA) (Lens.id _))) ?_)
            refine cons (alloc z49 (fun b20 => ?_))
            refine cons (storeV ty49 (Lens.id _) (.t rfl) (.t rfl) (by repeat first | exact Upd.head | apply Upd.tail | apply Upd.right) ?_)
            refine nil ?_
            refine pN ?_
            refine seq ?_
            refine region ?_
            refine cons (opv (Ev.move (.t rfl)) ?_)
            refine cons (opv (Ev.fieldAddr (o := 1) (.t rfl) (by kernel_rfl)) ?_)
            refine cons (opv (Ev.fieldAddr (o := 34) (.t rfl) (by kernel_rfl)) ?_)
            refine cons (storeV ty5 (Lens.comp SLaw19Came.l_h SHeader.l_proto) (.t rfl) (.t rfl) (by repeat first | exact Upd.head | apply Upd.tail | apply Upd.right) ?_)
            refine nil ?_
            refine pN ?_
            refine cut (X := SLaw19Came) (fun x : SLaw19Came => (x = prE b ((prsL ([m, n].getD k.toNat eMatch.zero).proto).getD j4.toNat u8E.zero))) (fun x : SLaw19Came => [(3, true, .bool v), (4, true, .pointer (some ⟨b1, 0, none⟩)), (35, true, v5.v), (36, true, I 2), (37, true, I k), (9, true, o4.v), (11, true, .pointer (some ⟨b6, 0, none⟩)), (136, true, v19.v), (137, true, I 4), (138, true, I j4), (23, true, .pointer (some ⟨b20, 0, none⟩))]) (fun x : SLaw19Came => [Var b20 eLaw19Came x 49, OwnS v19.v u8E (prsL ([m, n].getD k.toNat eMatch.zero).proto) 5, Var b6 eMatch ([m, n].getD k.toNat eMatch.zero) 31, OwnS v5.v eMatch [m, n] 31, OwnS o4.v eLaw19Came y4 49, Var b1 eLaw19Came b 49]) ?_ (fun x hx => ?_)
            · refine seq ?_
              refine region ?_
              refine cons (opv (Ev.move (.t rfl)) ?_)
              refine cons (opv (Ev.neq_u8 (.t rfl) (.c (v := U8 6) rfl)) ?_)
              refine cons (opv (Ev.move (.t rfl)) ?_)
              refine cons (opg rfl rfl (Ev.move (.t rfl)) ?_)
              refine cons (opg rfl rfl (Ev.neq_u8 (.g rfl id) (.c (v := U8 17) rfl)) ?_)
              refine cons (opv (Ev.pickA (.t rfl) (fun {_} h => by cases h; rfl) ⟨_, rfl⟩ (by intro h1 h; first | (rw [h] <;> rfl) | (rw [h1, h] <;> rfl) | (rw [h, h1] <;> rfl) | simp_all) (.c (v := .bool false) rfl)) ?_)
              refine nil ?_
              refine pN ?_
              first | refine condD rfl (fun h5 => ?_) (fun h5 => ?_) | refine cond rfl (fun h5 => ?_) (fun h5 => ?_)
              · try simp only [Bool.and_eq_true, Bool.or_eq_true, Bool.or_eq_false_iff, Bool.and_eq_false_iff, Bool.not_eq_true', Bool.not_eq_false', decide_eq_true_eq, decide_eq_false_iff_not, Decidable.not_not] at h5
                refine seq ?_
                refine region ?_
                refine cons (opv (Ev.fieldAddr (o := 1) (.t rfl) (by kernel_rfl)) ?_)
                refine cons (opv (Ev.fieldAddr (o := 35) (.t rfl) (by kernel_rfl)) ?_)
                refine cons (storeV ty22 (Lens.comp SLaw19Came.l_h SHeader.l_srcPort) (.t rfl) (.c (v := U16 0) rfl) (by repeat first | exact Upd.head | apply Upd.tail | apply Upd.right) ?_)
                refine nil ?_
                refine pN ?_
                refine region ?_
                refine cons (opv (Ev.fieldAddr (o := 1) (.t rfl) (by kernel_rfl)) ?_)
                refine cons (opv (Ev.fieldAddr (o := 36) (.t rfl) (by kernel_rfl)) ?_)
                refine cons (storeV ty22 (Lens.comp SLaw19Came.l_h SHeader.l_dstPort) (.t rfl) (.c (v := U16 0) rfl) (by repeat first | exact Upd.head | apply Upd.tail | apply Upd.right) ?_)
                refine nil ?_
                refine pN ?_
                refine meet (X := SLaw19Came) (_) ?_ (by repeat first | exact Sub.nil | refine Sub.cons rfl ?_) (by repeat first | exact sR | exact sN | apply sC | apply sS | apply sA)
                · try dsimp only
                  first
                    | (rw [prE, if_neg (fun k => k.elim h5.1 h5.2)]; rfl)
                    | (rw [prE, if_pos (by rcases h5 with q | q
                                           · exact .inl q
                                           · exact .inr q)]; rfl)
              · try simp only [Bool.and_eq_true, Bool.or_eq_true, Bool.or_eq_false_iff, Bool.and_eq_false_iff, Bool.not_eq_true', Bool.not_eq_false', decide_eq_true_eq, decide_eq_false_iff_not, Decidable.not_not] at h5
                refine skip ?_
                refine pN ?_
                refine meet (X := SLaw19Came) (_) ?_ (by repeat first | exact Sub.nil | refine Sub.cons rfl ?_) (by repeat first | exact sR | exact sN | apply sC | apply sS | apply sA)
                · try dsimp only
                  first
                    | (rw [prE, if_neg (fun k => k.elim h5.1 h5.2)]; rfl)
                    | (rw [prE, if_pos (by rcases h5 with q | q
                                           · exact .inl q
                                           · exact .inr q)]; rfl)
            obtain ⟨c, rfl⟩ : ∃ y, y = x := ⟨x, rfl⟩
            have hc : c = prE b ((prsL ([m, n].getD k.toNat eMatch.zero).proto).getD j4.toNat u8E.zero) := hx
            clear hx
            show Sat _ _ [(3, true, .bool v), (4, true, .pointer (some ⟨b1, 0, none⟩)), (35, true, v5.v), (36, true, I 2), (37, true, I k), (9, true, o4.v), (11, true, .pointer (some ⟨b6, 0, none⟩)), (136, true, v19.v), (137, true, I 4), (138, true, I j4), (23, true, .pointer (some ⟨b20, 0, none⟩))] [Var b20 eLaw19Came c 49, OwnS v19.v u8E (prsL ([m, n].getD k.toNat eMatch.zero).proto) 5, Var b6 eMatch ([m, n].getD k.toNat eMatch.zero) 31, OwnS v5.v eMatch [m, n] 31, OwnS o4.v eLaw19Came y4 49, Var b1 eLaw19Came b 49]
            subst hc
            refine region ?_
            refine cons (opv (Ev.move (.t rfl)) ?_)
            refine cons (opv (Ev.load ty49 (.t rfl) (ptsVar (by repeat first | exact mH | apply mT | apply mA) (Lens.id _))) ?_)
            refine cons (buildSlice (E := eLaw19Came) Try.underlying42 ty49 z49 (.cons (.t rfl) .nil) rfl rfl (fun v21 => ?_))
            refine cons (append (E := eLaw19Came) Try.underlying42 ty49 rfl zb49 zs49 (.t rfl) (.t rfl) (fun _ => by repeat first | exact Upd.head | apply Upd.tail | apply Upd.right) (by first | exact isSl_own (by repeat first | exact mH | apply mT | apply mA) | exact fun w I => IsSl.keep0 (by assumption) I.keeps) (⟨by show _ + 1 ≤ 9223372036854775807; omega, by show (_ + 1) * _ ≤ _; omega⟩) (fun v22 => ?_))
            refine cons (opv (Ev.assign (.t rfl)) ?_)
            refine nil ?_
            refine bN ?_
            refine pN ?_
            refine region ?_
            refine cons (opv (Ev.add_i (.t rfl) (.c (v := I 1) rfl) (fun _ => by omega)) ?_)
            refine cons (opv (Ev.move (.t rfl)) ?_)
            refine nil ?_
            refine pN ?_
            refine next (X := Int × OV × (List SLaw19Came)) (j4 + 1, _, _) ⟨?_, ?_⟩ ?_ (by repeat first | exact Sub.nil | refine Sub.cons rfl ?_) (by repeat first | exact sR | exact sN | apply sC | apply sS | apply sA)
            · try dsimp only
              omega
            · try dsimp only
              rw [map_snoc _ _ j4 hj4.1 (by show j4 < 4; omega) u8E.zero, hy4, List.append_assoc]
              rfl
            · try dsimp only
              omega
          · try simp only [Bool.and_eq_true, Bool.or_eq_true, Bool.or_eq_false_iff, Bool.and_eq_false_iff, Bool.not_eq_true', Bool.not_eq_false', decide_eq_true_eq, decide_eq_false_iff_not, Decidable.not_not] at hge
            rw [take_len (prsL ([m, n].getD k.toNat eMatch.zero).proto) j4 (by show (4 : Int) ≤ j4; omega)] at hy4
            refine exit ?_
            refine pX ?_
            refine pX ?_
            refine bX ?_
            refine pN ?_
            refine seq ?_
            refine region ?_
            refine cons (opv (Ev.fieldAddr (o := 3) (.t rfl) (by kernel_rfl)) ?_)
            refine cons (opv (Ev.load ty29 (.t rfl) (ptsVar (by repeat first | exact mH | apply mT | apply mA) SMatch.l_src)) ?_)
            refine cons (opv (Ev.fieldAddr (o := 21) (.t rfl) (by kernel_rfl)) ?_)
            refine cons (opv (Ev.load ty29 (.t rfl) (ptsVar (by repeat first | exact mH | apply mT | apply mA) SMatch.l_dst)) ?_)
            refine cons (opv (Ev.move (.t rfl)) ?_)
            refine cons (opv (Ev.buildS (fs := _) (places := [(0, 1), (1, 16)]) z27 rfl Try.underlying27 (by kernel_rfl) (.cons (.t rfl) .nil) (Fills.cons SAddr.l_v6 rfl Fills.nil)) ?_)
            refine cons (opv (Ev.buildS (fs := _) (places := [(0, 17), (17, 1)]) z29 rfl Try.underlying29 (by kernel_rfl) (.cons (.t rfl) .nil) (Fills.cons SPrefix.l_addr rfl Fills.nil)) ?_)
            refine cons (buildSlice (E := ePrefix) Try.underlying102 ty29 z29 (.cons (.t rfl) (.cons (.t rfl) (.cons (.t rfl) .nil))) rfl rfl (fun v23 => ?_))
            refine cons (opv (Ev.len Try.underlying102 (.t rfl) (by first | exact isSl_own (by repeat first | exact mH | apply mT | apply mA) | exact fun w I => IsSl.keep0 (by assumption) I.keeps)) ?_)
            refine cons (opv (Ev.move (.c (v := I 0) rfl)) ?_)
            refine nil ?_
            refine pN ?_
            refine block ?_
            refine loop (X := Int × OV × (List SLaw19Came)) (fun x : Int × OV × (List SLaw19Came) => (0 ≤ x.1 ∧ x.1 ≤ 3) ∧ (x.2.2 = y4 ++ ((pfsL ([m, n].getD k.toNat eMatch.zero) v).take x.1.toNat).flatMap (pfE b v))) (fun x : Int × OV × (List SLaw19Came) => [(3, true, .bool v), (4, true, .pointer (some ⟨b1, 0, none⟩)), (35, true, v5.v), (36, true, I 2), (37, true, I k), (9, true, x.2.1.v), (11, true, .pointer (some ⟨b6, 0, none⟩)), (168, true, v23.v), (169, true, I 3), (170, true, I x.1)]) (fun x : Int × OV × (List SLaw19Came) => [OwnS v23.v ePrefix (pfsL ([m, n].getD k.toNat eMatch.zero) v) 29, Var b6 eMatch ([m, n].getD k.toNat eMatch.zero) 31, OwnS v5.v eMatch [m, n] 31, OwnS x.2.1.v eLaw19Came x.2.2 49, Var b1 eLaw19Came b 49]) (fun x : Int × OV × (List SLaw19Came) => (3 - x.1).toNat) (0, o4, y4) ⟨?_, ?_⟩ (by repeat first | exact Sub.nil | refine Sub.cons rfl ?_) (by repeat first | exact sR | exact sN | apply sC | apply sS | apply sA) (fun x hx => ?_)
            · omega
            · simp
            obtain ⟨j5, o5, y5⟩ := x
            obtain ⟨hj5, hy5⟩ : (0 ≤ j5 ∧ j5 ≤ 3) ∧ (y5 = y4 ++ ((pfsL ([m, n].getD k.toNat eMatch.zero) v).take j5.toNat).flatMap (pfE b v)) := hx
            show Sat _ _ [(3, true, .bool v), (4, true, .pointer (some ⟨b1, 0, none⟩)), (35, true, v5.v), (36, true, I 2), (37, true, I k), (9, true, o5.v), (11, true, .pointer (some ⟨b6, 0, none⟩)), (168, true, v23.v), (169, true, I 3), (170, true, I j5)] [OwnS v23.v ePrefix (pfsL ([m, n].getD k.toNat eMatch.zero) v) 29, Var b6 eMatch ([m, n].getD k.toNat eMatch.zero) 31, OwnS v5.v eMatch [m, n] 31, OwnS o5.v eLaw19Came y5 49, Var b1 eLaw19Came b 49]
            have ly5 : y5.length ≤ y4.length + 24 := by
              rw [hy5, List.length_append]
              have q := flat_len ((pfsL ([m, n].getD k.toNat eMatch.zero) v).take j5.toNat) (pfE b v) 8 (fun p _ => pfE_len b v p)
              have q2 : ((pfsL ([m, n].getD k.toNat eMatch.zero) v).take j5.toNat).length ≤ 3 := by rw [List.length_take]; exact Nat.min_le_right _ _
              omega
            refine seq ?_
            refine region ?_
            refine cons (opv (Ev.lss_i (.t rfl) (.t rfl)) ?_)
            refine nil ?_
            refine pN ?_
            refine seq ?_
            first | refine condD rfl (fun hlt => ?_) (fun hge => ?_) | refine cond rfl (fun hlt => ?_) (fun hge => ?_)
            · try simp only [Bool.and_eq_true, Bool.or_eq_true, Bool.or_eq_false_iff, Bool.and_eq_false_iff, Bool.not_eq_true', Bool.not_eq_false', decide_eq_true_eq, decide_eq_false_iff_not, Decidable.not_not] at hlt
              refine skip ?_
              refine pN ?_
              refine seq ?_
              refine block ?_
              refine seq ?_
              refine region ?_
              refine cons (opv (Ev.indexAddr Try.underlying102 ty29 (.t rfl) (.t rfl) (by first | exact isSl_own (by repeat first | exact mH | apply mT | apply mA) | exact fun w I => IsSl.keep0 (by assumption) I.keeps) (fun _ => ⟨by omega, by show j5 < 3; omega⟩)) ?_)
              refine cons (opv (Ev.loadS0 ty29 (.t rfl) (by first | exact isSl_own (by repeat first | exact mH | apply mT | apply mA) | exact fun w I => IsSl.keep0 (by assumption) I.keeps) (fun _ => ⟨by omega, by show j5 < 3; omega⟩)) ?_)
              refine cons (alloc z29 (fun b24 => ?_))
              refine cons (storeV ty29 (Lens.id _) (.t rfl) (.t rfl) (by repeat first | exact Upd.head | apply Upd.tail | apply Upd.right) ?_)
              refine nil ?_
              refine pN ?_
              refine seq ?_
              refine seq ?_
              refine region ?_
              refine cons (opv (Ev.fieldAddr (o := 0) (.t rfl) (by kernel_rfl)) ?_)
              refine cons (opv (Ev.fieldAddr (o := 0) (.t rfl) (by kernel_rfl)) ?_)
              refine cons (opv (Ev.load ty4 (.t rfl) (ptsVar (by repeat first | exact mH | apply mT | apply mA) (Lens.comp SPrefix.l_addr SAddr.l_v6))) ?_)
              refine cons (opv (Ev.move (.t rfl)) ?_)
              refine cons (opv (Ev.neq_b Try.underlying4 (.t rfl) (.t rfl)) ?_)
              refine nil ?_
              refine pN ?_
              first | refine condD rfl (fun hv7 => ?_) (fun hv7 => ?_) | refine cond rfl (fun hv7 => ?_) (fun hv7 => ?_)
              · try simp only [Bool.and_eq_true, Bool.or_eq_true, Bool.or_eq_false_iff, Bool.and_eq_false_iff, Bool.not_eq_true', Bool.not_eq_false', decide_eq_true_eq, decide_eq_false_iff_not, Decidable.not_not] at hv7
                have hv7 : ¬ ((pfsL ([m, n].getD k.toNat eMatch.zero) v).getD j5.toNat ePrefix.zero).addr.v6 = v := hv7
                refine exit ?_
                refine pX ?_
                refine bX ?_
                refine pN ?_
                refine region ?_
                refine cons (opv (Ev.add_i (.t rfl) (.c (v := I 1) rfl) (fun _ => by omega)) ?_)
                refine cons (opv (Ev.move (.t rfl)) ?_)
                refine nil ?_
                refine pN ?_
                refine next (X := Int × OV × (List SLaw19Came)) (j5 + 1, _, _) ⟨?_, ?_⟩ ?_ (by repeat first | exact Sub.nil | refine Sub.cons rfl ?_) (by repeat first | exact sR | exact sN | apply sC | apply sS | apply sA)
                · try dsimp only
                  omega
                · try dsimp only
                  rw [flat_snoc _ _ j5 hj5.1 (by show j5 < 3; omega) ePrefix.zero]
                  first
                    | (rw [pfE, if_neg hv7, List.append_nil]; exact hy5)
                    | (rw [pfE, if_pos hv7, hy6, hy5, List.append_assoc])
                · try dsimp only
                  omega
              · try simp only [Bool.and_eq_true, Bool.or_eq_true, Bool.or_eq_false_iff, Bool.and_eq_false_iff, Bool.not_eq_true', Bool.not_eq_false', decide_eq_true_eq, decide_eq_false_iff_not, Decidable.not_not] at hv7
                have hv7 : ((pfsL ([m, n].getD k.toNat eMatch.zero) v).getD j5.toNat ePrefix.zero).addr.v6 = v := hv7
                have hpb := pfs_nonneg m n v hb k j5 (by omega) (by omega)
                refine skip ?_
                refine pN ?_
                refine seq ?_
                refine region ?_
                refine cons (opv (Ev.load ty29 (.t rfl) (ptsVar (by repeat first | exact mH | apply mT | apply mA) (Lens.id _))) ?_)
                refine cons (callv en68 (.cons (.t rfl) .nil) (fun w I => rlast_ok _ w hpb) ?_)
                refine cons (alloc z27 (fun b25 => ?_))
                refine cons (storeV ty27 (Lens.id _) (.t rfl) (.t rfl) (by repeat first | exact Upd.head | apply Upd.tail | apply Upd.right) ?_)
                refine nil ?_
                refine pN ?_
                refine seq ?_
                refine draw' (by kernel_rfl) ?_
                refine take 0 rfl (by kernel_rfl) (by kernel_rfl) (by kernel_rfl) (by repeat first | exact sR | exact sN | apply sC | apply sS | apply sA) (Ev.fieldAddr (o := 0) (.t rfl) (by kernel_rfl)) ?_
                refine take 1 rfl (by kernel_rfl) (by kernel_rfl) (by kernel_rfl) (by repeat first | exact sR | exact sN | apply sC | apply sS | apply sA) (Ev.load ty27 (.t rfl) (ptsVar (by repeat first | exact mH | apply mT | apply mA) SPrefix.l_addr)) ?_
                refine take 2 rfl (by kernel_rfl) (by kernel_rfl) (by kernel_rfl) (by repeat first | exact sR | exact sN | apply sC | apply sS | apply sA) (Ev.fieldAddr (o := 0) (.t rfl) (by kernel_rfl)) ?_
                refine take 3 rfl (by kernel_rfl) (by kernel_rfl) (by kernel_rfl) (by repeat first | exact sR | exact sN | apply sC | apply sS | apply sA) (Ev.load ty27 (.t rfl) (ptsVar (by repeat first | exact mH | apply mT | apply mA) SPrefix.l_addr)) ?_
                refine take 5 rfl (by kernel_rfl) (by kernel_rfl) (by kernel_rfl) (by repeat first | exact sR | exact sN | apply sC | apply sS | apply sA) (Ev.load ty27 (.t rfl) (ptsVar (by repeat first | exact mH | apply mT | apply mA) (Lens.id _))) ?_
                refine take 6 rfl (by kernel_rfl) (by kernel_rfl) (by kernel_rfl) (by repeat first | exact sR | exact sN | apply sC | apply sS | apply sA) (Ev.load ty27 (.t rfl) (ptsVar (by repeat first | exact mH | apply mT | apply mA) (Lens.id _))) ?_
                refine take 10 rfl (by kernel_rfl) (by kernel_rfl) (by kernel_rfl) (by repeat first | exact sR | exact sN | apply sC | apply sS | apply sA) (Ev.move (.c (v := I 0) rfl)) ?_
                refine all [4] (by kernel_rfl) (by decide) (.cons rfl ?_ .nil)
                refine (callv en69 (.cons (.t rfl) .nil) (fun w I => rahead_ok _ w) ?_)
                refine heldN_of (by repeat first | exact sR | exact sN | apply sC | apply sS | apply sA) ?_
                refine all [7] (by kernel_rfl) (by decide) (.cons rfl ?_ .nil)
                refine (callv en70 (.cons (.t rfl) .nil) (fun w I => rnext_ok _ w) ?_)
                refine heldN_of (by repeat first | exact sR | exact sN | apply sC | apply sS | apply sA) ?_
                refine all [8] (by kernel_rfl) (by decide) (.cons rfl ?_ .nil)
                refine (buildSlice (E := eAddr) Try.underlying105 ty27 z27 (.cons (.t rfl) (.cons (.t rfl) (.cons (.t rfl) (.cons (.t rfl) .nil)))) rfl rfl (fun v26 => ?_))
                refine heldN_of (by repeat first | exact sR | exact sN | apply sC | apply sS | apply sA) ?_
                refine all [9] (by kernel_rfl) (by decide) (.cons rfl ?_ .nil)
                refine (opv (Ev.len Try.underlying105 (.t rfl) (by first | exact isSl_own (by repeat first | exact mH | apply mT | apply mA) | exact fun w I => IsSl.keep0 (by assumption) I.keeps)) ?_)
                refine heldN_of (by repeat first | exact sR | exact sN | apply sC | apply sS | apply sA) ?_
                refine over (by kernel_rfl) ?_
                refine pN ?_
                refine block ?_
                refine loop (X := Int × OV × (List SLaw19Came)) (fun x : Int × OV × (List SLaw19Came) => (0 ≤ x.1 ∧ x.1 ≤ 4) ∧ (x.2.2 = y5 ++ ((adsL ((pfsL ([m, n].getD k.toNat eMatch.zero) v).getD j5.toNat ePrefix.zero)).take x.1.toNat).flatMap (adE b))) (fun x : Int × OV × (List SLaw19Came) => [(3, true, .bool v), (4, true, .pointer (some ⟨b1, 0, none⟩)), (35, true, v5.v), (36, true, I 2), (37, true, I k), (9, true, x.2.1.v), (11, true, .pointer (some ⟨b6, 0, none⟩)), (168, true, v23.v), (169, true, I 3), (170, true, I j5), (189, true, v26.v), (190, true, I 4), (191, true, I x.1)]) (fun x : Int × OV × (List SLaw19Came) => [OwnS v26.v eAddr (adsL ((pfsL ([m, n].getD k.toNat eMatch.zero) v).getD j5.toNat ePrefix.zero)) 27, OwnS v23.v ePrefix (pfsL ([m, n].getD k.toNat eMatch.zero) v) 29, Var b6 eMatch ([m, n].getD k.toNat eMatch.zero) 31, OwnS v5.v eMatch [m, n] 31, OwnS x.2.1.v eLaw19Came x.2.2 49, Var b1 eLaw19Came b 49]) (fun x : Int × OV × (List SLaw19Came) => (4 - x.1).toNat) (0, o5, y5) ⟨?_, ?_⟩ (by repeat first | exact Sub.nil | refine Sub.cons rfl ?_) (by repeat first | exact sR | exact sN | apply sC | apply sS | apply sA) (fun x hx => ?_)
                · omega
                · simp
                obtain ⟨j6, o6, y6⟩ := x
                obtain ⟨hj6, hy6⟩ : (0 ≤ j6 ∧ j6 ≤ 4) ∧ (y6 = y5 ++ ((adsL ((pfsL ([m, n].getD k.toNat eMatch.zero) v).getD j5.toNat ePrefix.zero)).take j6.toNat).flatMap (adE b)) := hx
                show Sat _ _ [(3, true, .bool v), (4, true, .pointer (some ⟨b1, 0, none⟩)), (35, true, v5.v), (36, true, I 2), (37, true, I k), (9, true, o6.v), (11, true, .pointer (some ⟨b6, 0, none⟩)), (168, true, v23.v), (169, true, I 3), (170, true, I j5), (189, true, v26.v), (190, true, I 4), (191, true, I j6)] [OwnS v26.v eAddr (adsL ((pfsL ([m, n].getD k.toNat eMatch.zero) v).getD j5.toNat ePrefix.zero)) 27, OwnS v23.v ePrefix (pfsL ([m, n].getD k.toNat eMatch.zero) v) 29, Var b6 eMatch ([m, n].getD k.toNat eMatch.zero) 31, OwnS v5.v eMatch [m, n] 31, OwnS o6.v eLaw19Came y6 49, Var b1 eLaw19Came b 49]
                have ly6 : y6.length ≤ y5.length + 8 := by
                  rw [hy6, List.length_append]
                  have q := flat_len ((adsL ((pfsL ([m, n].getD k.toNat eMatch.zero) v).getD j5.toNat ePrefix.zero)).take j6.toNat) (adE b) 2 (fun p _ => Nat.le_refl 2)
                  have q2 : ((adsL ((pfsL ([m, n].getD k.toNat eMatch.zero) v).getD j5.toNat ePrefix.zero)).take j6.toNat).length ≤ 4 := by rw [List.length_take]; exact Nat.min_le_right _ _
                  omega
                refine seq ?_
                refine region ?_
                refine cons (opv (Ev.lss_i (.t rfl) (.t rfl)) ?_)
                refine nil ?_
                refine pN ?_
                refine seq ?_
                first | refine condD rfl (fun hlt => ?_) (fun hge => ?_) | refine cond rfl (fun hlt => ?_) (fun hge => ?_)
                · try simp only [Bool.and_eq_true, Bool.or_eq_true, Bool.or_eq_false_iff, Bool.and_eq_false_iff, Bool.not_eq_true', Bool.not_eq_false', decide_eq_true_eq, decide_eq_false_iff_not, Decidable.not_not] at hlt
                  refine skip ?_
                  refine pN ?_
                  refine seq ?_
                  refine block ?_
                  refine seq ?_
                  refine region ?_
                  refine cons (opv (Ev.indexAddr Try.underlying105 ty27 (.t rfl) (.t rfl) (by first | exact isSl_own (by repeat first | exact mH | apply mT | apply mA) | exact fun w I => IsSl.keep0 (by assumption) I.keeps) (fun _ => ⟨by omega, by show j6 < 4; omega⟩)) ?_)
                  refine cons (opv (Ev.loadS0 ty27 (.t rfl) (by first | exact isSl_own (by repeat first | exact mH | apply mT | apply mA) | exact fun w I => IsSl.keep0 (by assumption) I.keeps) (fun _ => ⟨by omega, by show j6 < 4; omega⟩)) ?_)
                  refine cons (alloc z27 (fun b27 => ?_))
                  refine cons (storeV ty27 (Lens.id _) (.t rfl) (.t rfl) (by repeat first | exact Upd.head | apply Upd.tail | apply Upd.right) ?_)
                  refine nil ?_
                  refine pN ?_
                  refine seq ?_
                  refine region ?_
                  refine cons (opv (Ev.load (xv := b) ty49 (.t rfl) (ptsVar (by repeat first | exact mH | apply mT | apply mA) (Lens.id _))) ?_)
                  refine cons (alloc z49 (fun b28 => ?_))
                  refine cons (storeV ty49 (Lens.id _) (.t rfl) (.t rfl) (by repeat first | exact Upd.head | apply Upd.tail | apply Upd.right) ?_)
                  refine nil ?_
                  refine pN ?_
                  refine seq ?_
                  refine region ?_
                  refine cons (opv (Ev.load ty27 (.t rfl) (ptsVar (by repeat first | exact mH | apply mT | apply mA) (Lens.id _))) ?_)
                  refine cons (opv (Ev.fieldAddr (o := 1) (.t rfl) (by kernel_rfl)) ?_)
                  refine cons (opv (Ev.fieldAddr (o := 0) (.t rfl) (by kernel_rfl)) ?_)
                  refine cons (storeV ty27 (Lens.comp SLaw19Came.l_h SHeader.l_src) (.t rfl) (.t rfl) (by repeat first | exact Upd.head | apply Upd.tail | apply Upd.right) ?_)
                  refine nil ?_
                  refine pN ?_
                  refine seq ?_
                  refine region ?_
                  refine cons (opv (Ev.load (xv := b) ty49 (.t rfl) (ptsVar (by repeat first | exact mH | apply mT | apply mA) (Lens.id _))) ?_)
                  refine cons (alloc z49 (fun b29 => ?_))
                  refine cons (storeV ty49 (Lens.id _) (.t rfl) (.t rfl) (by repeat first | exact Upd.head | apply Upd.tail | apply Upd.right) ?_)
                  refine nil ?_
                  refine pN ?_
                  refine seq ?_
                  refine region ?_
                  refine cons (opv (Ev.load ty27 (.t rfl) (ptsVar (by repeat first | exact mH | apply mT | apply mA) (Lens.id _))) ?_)
                  refine cons (opv (Ev.fieldAddr (o := 1) (.t rfl) (by kernel_rfl)) ?_)
                  refine cons (opv (Ev.fieldAddr (o := 17) (.t rfl) (by kernel_rfl)) ?_)
                  refine cons (storeV ty27 (Lens.comp SLaw19Came.l_h SHeader.l_dst) (.t rfl) (.t rfl) (by repeat first | exact Upd.head | apply Upd.tail | apply Upd.right) ?_)
                  refine nil ?_
                  refine pN ?_
                  refine region ?_
                  refine cons (opv (Ev.move (.t rfl)) ?_)
                  refine cons (opv (Ev.load ty49 (.t rfl) (ptsVar (by repeat first | exact mH | apply mT | apply mA) (Lens.id _))) ?_)
                  refine cons (opv (Ev.load ty49 (.t rfl) (ptsVar (by repeat first | exact mH | apply mT | apply mA) (Lens.id _))) ?_)
                  refine cons (buildSlice (E := eLaw19Came) Try.underlying42 ty49 z49 (.cons (.t rfl) (.cons (.t rfl) .nil)) rfl rfl (fun v30 => ?_))
                  refine cons (append (E := eLaw19Came) Try.underlying42 ty49 rfl zb49 zs49 (.t rfl) (.t rfl) (fun _ => by repeat first | exact Upd.head | apply Upd.tail | apply Upd.right) (by first | exact isSl_own (by repeat first | exact mH | apply mT | apply mA) | exact fun w I => IsSl.keep0 (by assumption) I.keeps) (⟨by show _ + 2 ≤ 9223372036854775807; omega, by show (_ + 2) * _ ≤ _; omega⟩) (fun v31 => ?_))
                  refine cons (opv (Ev.assign (.t rfl)) ?_)
                  refine nil ?_
                  refine bN ?_
                  refine pN ?_
                  refine region ?_
                  refine cons (opv (Ev.add_i (.t rfl) (.c (v := I 1) rfl) (fun _ => by omega)) ?_)
                  refine cons (opv (Ev.move (.t rfl)) ?_)
                  refine nil ?_
                  refine pN ?_
                  refine next (X := Int × OV × (List SLaw19Came)) (j6 + 1, _, _) ⟨?_, ?_⟩ ?_ (by repeat first | exact Sub.nil | refine Sub.cons rfl ?_) (by repeat first | exact sR | exact sN | apply sC | apply sS | apply sA)
                  · try dsimp only
                    omega
                  · try dsimp only
                    rw [flat_snoc _ _ j6 hj6.1 (by show j6 < 4; omega) eAddr.zero, hy6, List.append_assoc]
                    rfl
                  · try dsimp only
                    omega
                · try simp only [Bool.and_eq_true, Bool.or_eq_true, Bool.or_eq_false_iff, Bool.and_eq_false_iff, Bool.not_eq_true', Bool.not_eq_false', decide_eq_true_eq, decide_eq_false_iff_not, Decidable.not_not] at hge
                  rw [take_len (adsL ((pfsL ([m, n].getD k.toNat eMatch.zero) v).getD j5.toNat ePrefix.zero)) j6 (by show (4 : Int) ≤ j6; omega)] at hy6
                  refine exit ?_
                  refine pX ?_
                  refine pX ?_
                  refine bX ?_
                  refine bN ?_
                  refine pN ?_
                  refine region ?_
                  refine cons (opv (Ev.add_i (.t rfl) (.c (v := I 1) rfl) (fun _ => by omega)) ?_)
                  refine cons (opv (Ev.move (.t rfl)) ?_)
                  refine nil ?_
                  refine pN ?_
                  refine next (X := Int × OV × (List SLaw19Came)) (j5 + 1, _, _) ⟨?_, ?_⟩ ?_ (by repeat first | exact Sub.nil | refine Sub.cons rfl ?_) (by repeat first | exact sR | exact sN | apply sC | apply sS | apply sA)
                  · try dsimp only
                    omega
                  · try dsimp only
                    rw [flat_snoc _ _ j5 hj5.1 (by show j5 < 3; omega) ePrefix.zero]
                    first
                      | (rw [pfE, if_neg hv7, List.append_nil]; exact hy5)
                      | (rw [pfE, if_pos hv7, hy6, hy5, List.append_assoc])
                  · try dsimp only
                    omega
            · try simp only [Bool.and_eq_true, Bool.or_eq_true, Bool.or_eq_false_iff, Bool.and_eq_false_iff, Bool.not_eq_true', Bool.not_eq_false', decide_eq_true_eq, decide_eq_false_iff_not, Decidable.not_not] at hge
              rw [take_len (pfsL ([m, n].getD k.toNat eMatch.zero) v) j5 (by show (3 : Int) ≤ j5; omega)] at hy5
              refine exit ?_
              refine pX ?_
              refine pX ?_
              refine bX ?_
              refine bN ?_
              refine pN ?_
              refine region ?_
              refine cons (opv (Ev.add_i (.t rfl) (.c (v := I 1) rfl) (fun _ => by omega)) ?_)
              refine cons (opv (Ev.move (.t rfl)) ?_)
              refine nil ?_
              refine pN ?_
              refine next (X := Int × OV × (List SLaw19Came)) (k + 1, _, _) ⟨?_, ?_⟩ ?_ (by repeat first | exact Sub.nil | refine Sub.cons rfl ?_) (by repeat first | exact sR | exact sN | apply sC | apply sS | apply sA)
              · try dsimp only
                omega
              · try dsimp only
                rw [flat_snoc _ _ k hk.1 (by show k < 2; omega) eMatch.zero, hy5, hy4, hy3, hy2, hy1, hxs]
                unfold edge1
                simp only [List.append_assoc]
              · try dsimp only
                omega
  · try simp only [Bool.and_eq_true, Bool.or_eq_true, Bool.or_eq_false_iff, Bool.and_eq_false_iff, Bool.not_eq_true', Bool.not_eq_false', decide_eq_true_eq, decide_eq_false_iff_not, Decidable.not_not] at hge
    rw [take_len [m, n] k (by show (2 : Int) ≤ k; omega)] at hxs
    refine exit ?_
    refine pX ?_
    refine pX ?_
    refine bX ?_
    refine pN ?_
    refine seq ?_
    refine region ?_
    refine cons (opv (Ev.move (.t rfl)) ?_)
    refine cons (opv (Ev.assign (.t rfl)) ?_)
    refine nil ?_
    refine pN ?_
    refine ret ?_
    refine done rfl (.tmp rfl .nil) (retOE (by repeat first | exact mH | apply mT | apply mA) ?_)
    rw [hxs]; rfl
end Go.Proofs.Ytkmdhmfgbgngeaa
