/- rule -/
import Derived.Test.YtkmdhmfgbgngeaaR20
set_option linter.unusedVariables false
set_option linter.unusedSimpArgs false
namespace Go.Proofs.Ytkmdhmfgbgngeaa
open Go Go.Gx

def basesL (m n : SMatch) (v : Bool) : List SLaw19Came := [baseM m n v, baseM m m v, baseM n n v]
def kindL (m n : SMatch) (v : Bool) : List SLaw19Came := (basesL m n v).flatMap fun b => edgesL b m n v
def cornersL (m n : SMatch) : List SLaw19Came := [false, true].flatMap (kindL m n)
theorem kindL_len (m n : SMatch) (v : Bool) : (kindL m n v).length ≤ 279 := by
  have h := flat_len (basesL m n v) (fun b => edgesL b m n v) 93 (fun b _ => edgesL_len b m n v)
  have e : (basesL m n v).length = 3 := rfl
  rw [e] at h
  exact h
theorem cornersL_len (m n : SMatch) : (cornersL m n).length ≤ 558 := by
  have h := flat_len [false, true] (kindL m n) 279 (fun v _ => kindL_len m n v)
  have e : ([false, true] : List Bool).length = 2 := rfl
  rw [e] at h
  exact h
theorem kind_get (k : Int) (h : 0 ≤ k ∧ k < 2) : ([false, true] : List Bool).getD k.toNat false = decide (k = 1) := by
  have h1 : k = 0 ∨ k = 1 := by omega
  rcases h1 with rfl | rfl <;> rfl

theorem en52 : Enters Try.prog 52 := Enters.mk' (by kernel_rfl)

theorem z4 : (Try.prog.info? 4).bind (·.zero) = some (bE.val bE.zero) := by kernel_rfl

theorem en53 : Enters Try.prog 53 := Enters.mk' (by kernel_rfl)

theorem corners_ok (m n : SMatch) (w : World) (hb : 0 ≤ m.src.bits ∧ 0 ≤ m.dst.bits ∧ 0 ≤ n.src.bits ∧ 0 ≤ n.dst.bits) : Calls Try.prog 29 #[eMatch.val m, eMatch.val n] w (RetO w eLaw19Came (cornersL m n) 49) := by
  refine enter0 45 Try.func29 rfl rfl (Nat.le_of_ble_eq_true rfl) ?_
  refine seq ?_
  refine region ?_
  refine cons (box (E := eMatch) (.t rfl) (fun b1 => ?_))
  refine cons (box (E := eMatch) (.t rfl) (fun b2 => ?_))
  refine cons (opv (Ev.assign (.c (v := (Go.Value.slice none 0 0)) rfl)) ?_)
  refine nil ?_
  refine pN ?_
  refine seq ?_
  refine region ?_
  refine cons (opv (Ev.assign (.c (v := (Go.Value.slice none 0 0)) rfl)) ?_)
  refine takeNil eLaw19Came 49 ?_
  refine nil ?_
  refine pN ?_
  refine seq ?_
  refine seq ?_
  refine region ?_
  refine cons (opv (Ev.assign (.c (v := I 0) rfl)) ?_)
  refine nil ?_
  refine pN ?_
  refine block ?_
  refine loop (X := Int × OV × (List SLaw19Came)) (fun x : Int × OV × (List SLaw19Came) => (0 ≤ x.1 ∧ x.1 ≤ 2) ∧ (x.2.2 = (([false, true] : List Bool).take x.1.toNat).flatMap (kindL m n))) (fun x : Int × OV × (List SLaw19Came) => [(2, true, .pointer (some ⟨b1, 0, none⟩)), (3, true, .pointer (some ⟨b2, 0, none⟩)), (5, true, x.2.1.v), (6, true, I x.1)]) (fun x : Int × OV × (List SLaw19Came) => [OwnS x.2.1.v eLaw19Came x.2.2 49, Var b2 eMatch n 31, Var b1 eMatch m 31]) (fun x : Int × OV × (List SLaw19Came) => (2 - x.1).toNat) (0, nilSl, []) ⟨?_, ?_⟩ (by repeat first | exact Sub.nil | refine Sub.cons rfl ?_) (by repeat first | exact sR | exact sN | apply sC | apply sS | apply sA) (fun x hx => ?_)
  · omega
  · rfl
  obtain ⟨k, o, xs⟩ := x
  obtain ⟨hk, hxs⟩ : (0 ≤ k ∧ k ≤ 2) ∧ (xs = (([false, true] : List Bool).take k.toNat).flatMap (kindL m n)) := hx
  show Sat _ _ [(2, true, .pointer (some ⟨b1, 0, none⟩)), (3, true, .pointer (some ⟨b2, 0, none⟩)), (5, true, o.v), (6, true, I k)] [OwnS o.v eLaw19Came xs 49, Var b2 eMatch n 31, Var b1 eMatch m 31]
  have lx : xs.length ≤ 558 := by
    have q := flat_len (([false, true] : List Bool).take k.toNat) (kindL m n) 279 (fun v _ => kindL_len m n v)
    have q2 : (([false, true] : List Bool).take k.toNat).length ≤ 2 := by rw [List.length_take]; exact Nat.min_le_right _ _
    rw [hxs]
    omega
  refine seq ?_
  refine seq ?_
  refine region ?_
  refine cons (opv (Ev.move (.t rfl)) ?_)
  refine cons (opv (Ev.lss_i (.t rfl) (.c (v := I 2) rfl)) ?_)
  refine nil ?_
  refine pN ?_
  first | refine condD rfl (fun hlt => ?_) (fun hge => ?_) | refine cond rfl (fun hlt => ?_) (fun hge => ?_)
  · try simp only [Bool.and_eq_true, Bool.or_eq_true, Bool.or_eq_false_iff, Bool.and_eq_false_iff, Bool.not_eq_true', Bool.not_eq_false', decide_eq_true_eq, decide_eq_false_iff_not, Decidable.not_not] at hlt
    refine skip ?_
    refine pN ?_
    refine seq ?_
    refine block ?_
    refine seq ?_
    refine region ?_
    refine cons (opv (Ev.move (.t rfl)) ?_)
    refine cons (opv (Ev.eql_i (.t rfl) (.c (v := I 1) rfl)) ?_)
    refine cons (alloc z4 (fun b3 => ?_))
    refine cons (storeV ty4 (Lens.id _) (.t rfl) (.t rfl) (by repeat first | exact Upd.head | apply Upd.tail | apply Upd.right) ?_)
    refine nil ?_
    refine pN ?_
    refine seq ?_
    refine region ?_
    refine cons (opv (Ev.makeFunc (f := 52) (.cons (.t rfl) .nil)) ?_)
    refine cons (opv (Ev.assign (.t rfl)) ?_)
    refine nil ?_
    refine pN ?_
    refine seq ?_
    refine draw' (by kernel_rfl) ?_
    refine take 0 rfl (by kernel_rfl) (by kernel_rfl) (by kernel_rfl) (by repeat first | exact sR | exact sN | apply sC | apply sS | apply sA) (Ev.move (.t rfl)) ?_
    refine take 1 rfl (by kernel_rfl) (by kernel_rfl) (by kernel_rfl) (by repeat first | exact sR | exact sN | apply sC | apply sS | apply sA) (Ev.load (xv := m) ty31 (.t rfl) (ptsVar (by repeat first | exact mH | apply mT | apply mA) (Lens.id _))) ?_
    refine take 2 rfl (by kernel_rfl) (by kernel_rfl) (by kernel_rfl) (by repeat first | exact sR | exact sN | apply sC | apply sS | apply sA) (Ev.load (xv := n) ty31 (.t rfl) (ptsVar (by repeat first | exact mH | apply mT | apply mA) (Lens.id _))) ?_
    refine take 4 rfl (by kernel_rfl) (by kernel_rfl) (by kernel_rfl) (by repeat first | exact sR | exact sN | apply sC | apply sS | apply sA) (Ev.move (.t rfl)) ?_
    refine take 5 rfl (by kernel_rfl) (by kernel_rfl) (by kernel_rfl) (by repeat first | exact sR | exact sN | apply sC | apply sS | apply sA) (Ev.load (xv := m) ty31 (.t rfl) (ptsVar (by repeat first | exact mH | apply mT | apply mA) (Lens.id _))) ?_
    refine take 6 rfl (by kernel_rfl) (by kernel_rfl) (by kernel_rfl) (by repeat first | exact sR | exact sN | apply sC | apply sS | apply sA) (Ev.load (xv := m) ty31 (.t rfl) (ptsVar (by repeat first | exact mH | apply mT | apply mA) (Lens.id _))) ?_
    refine take 8 rfl (by kernel_rfl) (by kernel_rfl) (by kernel_rfl) (by repeat first | exact sR | exact sN | apply sC | apply sS | apply sA) (Ev.move (.t rfl)) ?_
    refine take 9 rfl (by kernel_rfl) (by kernel_rfl) (by kernel_rfl) (by repeat first | exact sR | exact sN | apply sC | apply sS | apply sA) (Ev.load (xv := n) ty31 (.t rfl) (ptsVar (by repeat first | exact mH | apply mT | apply mA) (Lens.id _))) ?_
    refine take 10 rfl (by kernel_rfl) (by kernel_rfl) (by kernel_rfl) (by repeat first | exact sR | exact sN | apply sC | apply sS | apply sA) (Ev.load (xv := n) ty31 (.t rfl) (ptsVar (by repeat first | exact mH | apply mT | apply mA) (Lens.id _))) ?_
    refine take 14 rfl (by kernel_rfl) (by kernel_rfl) (by kernel_rfl) (by repeat first | exact sR | exact sN | apply sC | apply sS | apply sA) (Ev.move (.c (v := I 0) rfl)) ?_
    refine all [3] (by kernel_rfl) (by decide) (.cons rfl ?_ .nil)
    refine (callcv (.t rfl) en52 (.cons (.t rfl) (.cons (.t rfl) .nil)) (fun w I => corn1_ok m n (decide (k = 1)) _ w (ptsVar (by repeat first | exact mH | apply mT | apply mA) (Lens.id _) w I)) ?_)
    refine heldN_of (by repeat first | exact sR | exact sN | apply sC | apply sS | apply sA) ?_
    refine all [7] (by kernel_rfl) (by decide) (.cons rfl ?_ .nil)
    refine (callcv (.t rfl) en52 (.cons (.t rfl) (.cons (.t rfl) .nil)) (fun w I => corn1_ok m m (decide (k = 1)) _ w (ptsVar (by repeat first | exact mH | apply mT | apply mA) (Lens.id _) w I)) ?_)
    refine heldN_of (by repeat first | exact sR | exact sN | apply sC | apply sS | apply sA) ?_
    refine all [11] (by kernel_rfl) (by decide) (.cons rfl ?_ .nil)
    refine (callcv (.t rfl) en52 (.cons (.t rfl) (.cons (.t rfl) .nil)) (fun w I => corn1_ok n n (decide (k = 1)) _ w (ptsVar (by repeat first | exact mH | apply mT | apply mA) (Lens.id _) w I)) ?_)
    refine heldN_of (by repeat first | exact sR | exact sN | apply sC | apply sS | apply sA) ?_
    refine all [12] (by kernel_rfl) (by decide) (.cons rfl ?_ .nil)
    refine (buildSlice (E := eLaw19Came) Try.underlying42 ty49 z49 (.cons (.t rfl) (.cons (.t rfl) (.cons (.t rfl) .nil))) rfl rfl (fun v4 => ?_))
    refine heldN_of (by repeat first | exact sR | exact sN | apply sC | apply sS | apply sA) ?_
    refine all [13] (by kernel_rfl) (by decide) (.cons rfl ?_ .nil)
    refine (opv (Ev.len Try.underlying42 (.t rfl) (by first | exact isSl_own (by repeat first | exact mH | apply mT | apply mA) | exact fun w I => IsSl.keep0 (by assumption) I.keeps)) ?_)
    refine heldN_of (by repeat first | exact sR | exact sN | apply sC | apply sS | apply sA) ?_
    refine over (by kernel_rfl) ?_
    refine pN ?_
    refine block ?_
    refine loop (X := Int × OV × (List SLaw19Came)) (fun x : Int × OV × (List SLaw19Came) => (0 ≤ x.1 ∧ x.1 ≤ 3) ∧ (x.2.2 = xs ++ ((basesL m n (decide (k = 1))).take x.1.toNat).flatMap (fun b => edgesL b m n (decide (k = 1))))) (fun x : Int × OV × (List SLaw19Came) => [(2, true, .pointer (some ⟨b1, 0, none⟩)), (3, true, .pointer (some ⟨b2, 0, none⟩)), (5, true, x.2.1.v), (6, true, I k), (7, true, .pointer (some ⟨b3, 0, none⟩)), (30, true, v4.v), (31, true, I 3), (32, true, I x.1)]) (fun x : Int × OV × (List SLaw19Came) => [OwnS v4.v eLaw19Came (basesL m n (decide (k = 1))) 49, Var b3 bE (decide (k = 1)) 4, OwnS x.2.1.v eLaw19Came x.2.2 49, Var b2 eMatch n 31, Var b1 eMatch m 31]) (fun x : Int × OV × (List SLaw19Came) => (3 - x.1).toNat) (0, o, xs) ⟨?_, ?_⟩ (by repeat first | exact Sub.nil | refine Sub.cons rfl ?_) (by repeat first | exact sR | exact sN | apply sC | apply sS | apply sA) (fun x hx => ?_)
    · omega
    · simp
    obtain ⟨j, p, ys⟩ := x
    obtain ⟨hj, hys⟩ : (0 ≤ j ∧ j ≤ 3) ∧ (ys = xs ++ ((basesL m n (decide (k = 1))).take j.toNat).flatMap (fun b => edgesL b m n (decide (k = 1)))) := hx
    show Sat _ _ [(2, true, .pointer (some ⟨b1, 0, none⟩)), (3, true, .pointer (some ⟨b2, 0, none⟩)), (5, true, p.v), (6, true, I k), (7, true, .pointer (some ⟨b3, 0, none⟩)), (30, true, v4.v), (31, true, I 3), (32, true, I j)] [OwnS v4.v eLaw19Came (basesL m n (decide (k = 1))) 49, Var b3 bE (decide (k = 1)) 4, OwnS p.v eLaw19Came ys 49, Var b2 eMatch n 31, Var b1 eMatch m 31]
    have ly : ys.length ≤ xs.length + 279 := by
      have q := flat_len ((basesL m n (decide (k = 1))).take j.toNat) (fun b => edgesL b m n (decide (k = 1))) 93 (fun b _ => edgesL_len b m n _)
      have q2 : ((basesL m n (decide (k = 1))).take j.toNat).length ≤ 3 := by rw [List.length_take]; exact Nat.min_le_right _ _
      rw [hys, List.length_append]
      omega
    refine seq ?_
    refine region ?_
    refine cons (opv (Ev.lss_i (.t rfl) (.t rfl)) ?_)
    refine nil ?_
    refine pN ?_
    refine seq ?_
    first | refine condD rfl (fun hlt => ?_) (fun hge => ?_) | refine cond rfl (fun hlt => ?_) (fun hge => ?_)
    · try simp only [Bool.and_eq_true, Bool.or_eq_true, Bool.or_eq_false_iff, Bool.and_eq_false_iff, Bool.not_eq_true', Bool.not_eq_false', decide_eq_true_eq, decide_eq_false_iff_not, Decidable.not_not] at hlt
      refine skip ?_
      refine pN ?_
      refine seq ?_
      refine block ?_
      refine seq ?_
      refine region ?_
      refine cons (opv (Ev.indexAddr Try.underlying42 ty49 (.t rfl) (.t rfl) (by first | exact isSl_own (by repeat first | exact mH | apply mT | apply mA) | exact fun w I => IsSl.keep0 (by assumption) I.keeps) (fun _ => ⟨by omega, by show j < 3; omega⟩)) ?_)
      refine cons (opv (Ev.loadS0 ty49 (.t rfl) (by first | exact isSl_own (by repeat first | exact mH | apply mT | apply mA) | exact fun w I => IsSl.keep0 (by assumption) I.keeps) (fun _ => ⟨by omega, by show j < 3; omega⟩)) ?_)
      refine cons (alloc z49 (fun b5 => ?_))
      refine cons (storeV ty49 (Lens.id _) (.t rfl) (.t rfl) (by repeat first | exact Upd.head | apply Upd.tail | apply Upd.right) ?_)
      refine nil ?_
      refine pN ?_
      refine region ?_
      refine cons (opv (Ev.move (.t rfl)) ?_)
      refine cons (opv (Ev.load ty49 (.t rfl) (ptsVar (by repeat first | exact mH | apply mT | apply mA) (Lens.id _))) ?_)
      refine cons (opv (Ev.load (xv := m) ty31 (.t rfl) (ptsVar (by repeat first | exact mH | apply mT | apply mA) (Lens.id _))) ?_)
      refine cons (opv (Ev.load (xv := n) ty31 (.t rfl) (ptsVar (by repeat first | exact mH | apply mT | apply mA) (Lens.id _))) ?_)
      refine cons (opv (Ev.load ty4 (.t rfl) (ptsVar (by repeat first | exact mH | apply mT | apply mA) (Lens.id _))) ?_)
      refine cons (callo en53 (.cons (.t rfl) (.cons (.t rfl) (.cons (.t rfl) (.cons (.t rfl) .nil)))) (fun w I => edges_ok ((basesL m n (decide (k = 1))).getD j.toNat eLaw19Came.zero) m n (decide (k = 1)) w hb) (fun v6 => ?_))
      have le := edgesL_len ((basesL m n (decide (k = 1))).getD j.toNat eLaw19Came.zero) m n (decide (k = 1))
      refine cons (append (E := eLaw19Came) Try.underlying42 ty49 rfl zb49 zs49 (.t rfl) (.t rfl) (fun _ => by repeat first | exact Upd.head | apply Upd.tail | apply Upd.right) (by first | exact isSl_own (by repeat first | exact mH | apply mT | apply mA) | exact fun w I => IsSl.keep0 (by assumption) I.keeps) (⟨by show _ + _ ≤ 9223372036854775807; omega, by show (_ + _) * _ ≤ _; omega⟩) (fun v7 => ?_))
      refine cons (opv (Ev.assign (.t rfl)) ?_)
      refine nil ?_
      refine bN ?_
      refine pN ?_
      refine region ?_
      refine cons (opv (Ev.add_i (.t rfl) (.c (v := I 1) rfl) (fun _ => by omega)) ?_)
      refine cons (opv (Ev.move (.t rfl)) ?_)
      refine nil ?_
      refine pN ?_
      refine next (X := Int × OV × (List SLaw19Came)) (j + 1, _, _) ⟨?_, ?_⟩ ?_ (by repeat first | exact Sub.nil | refine Sub.cons rfl ?_) (by repeat first | exact sR | exact sN | apply sC | apply sS | apply sA)
      · try dsimp only
        omega
      · try dsimp only
        rw [flat_snoc _ _ j hj.1 (by show j < 3; omega) eLaw19Came.zero, hys, List.append_assoc]
      · try dsimp only
        omega
    · try simp only [Bool.and_eq_true, Bool.or_eq_true, Bool.or_eq_false_iff, Bool.and_eq_false_iff, Bool.not_eq_true', Bool.not_eq_false', decide_eq_true_eq, decide_eq_false_iff_not, Decidable.not_not] at hge
      rw [take_len _ j (by show (3 : Int) ≤ j; omega)] at hys
      refine exit ?_
      refine pX ?_
      refine pX ?_
      refine bX ?_
      refine bN ?_
      refine pN ?_
      refine region ?_
      refine cons (opv (Ev.move (.t rfl)) ?_)
      refine cons (opv (Ev.add_i (.t rfl) (.c (v := I 1) rfl) (fun _ => by omega)) ?_)
      refine cons (opv (Ev.assign (.t rfl)) ?_)
      refine nil ?_
      refine pN ?_
      refine next (X := Int × OV × (List SLaw19Came)) (k + 1, _, _) ⟨?_, ?_⟩ ?_ (by repeat first | exact Sub.nil | refine Sub.cons rfl ?_) (by repeat first | exact sR | exact sN | apply sC | apply sS | apply sA)
      · try dsimp only
        omega
      · try dsimp only
        rw [flat_snoc _ _ k hk.1 (by show k < 2; omega) false, kind_get k (by omega), hys, hxs]
        rfl
      · try dsimp only
        omega
  · try simp only [Bool.and_eq_true, Bool.or_eq_true, Bool.or_eq_false_iff, Bool.and_eq_false_iff, Bool.not_eq_true', Bool.not_eq_false', decide_eq_true_eq, decide_eq_false_iff_not, Decidable.not_not] at hge
    rw [take_len _ k (by show (2 : Int) ≤ k; omega)] at hxs
    refine exit ?_
    refine pX ?_
    refine pX ?_
    refine bX ?_
    refine pN ?_
    refine seq ?_
    refine region ?_
    refine cons (opv (Ev.move (.t rfl)) ?_)
    refine cons (opv (Ev.assign (.t rfl)) ?_)
    refine nil ?_
    refine pN ?_
    refine ret ?_
    refine done rfl (.tmp rfl .nil) (retOE (by repeat first | exact mH | apply mT | apply mA) ?_)
    rw [hxs]; rfl
end Go.Proofs.Ytkmdhmfgbgngeaa
