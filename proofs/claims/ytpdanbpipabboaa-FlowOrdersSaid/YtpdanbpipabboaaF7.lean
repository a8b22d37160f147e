/- test -/
import Derived.Test.YtpdanbpipabboaaF6
set_option linter.unusedVariables false
set_option linter.unusedSimpArgs false
namespace Go.Proofs.Ytpdanbpipabboaa
open Go Go.Gx

theorem cmp_step (xs ys : List UInt8) (i : Nat) (h1 : i < xs.length) (h2 : i < ys.length) :
    Lib.compareBytes (xs.drop i) (ys.drop i) = if xs.getD i 0 < ys.getD i 0 then -1 else if ys.getD i 0 < xs.getD i 0 then 1 else Lib.compareBytes (xs.drop (i + 1)) (ys.drop (i + 1)) := by
  rw [List.drop_eq_getElem_cons h1, List.drop_eq_getElem_cons h2]
  have e1 : xs.getD i 0 = xs[i] := by simp [List.getD, h1]
  have e2 : ys.getD i 0 = ys[i] := by simp [List.getD, h2]
  rw [e1, e2]
  rfl
def cmpK (a b : SKey) : Int := Lib.compareBytes (keyB a) (keyB b)

theorem bcmp_ok (u v : Value) (xs ys : List UInt8) (w : World) (hu : IsSl u8E w u xs) (hv : IsSl u8E w v ys) : Calls Try.prog 28 #[u, v] w (RetV w (I (Lib.compareBytes xs ys))) := by
  refine enter0 8 Try.func28 rfl rfl (Nat.le_of_ble_eq_true rfl) ?_
  refine seq ?_
  refine region ?_
  refine cons (opv (Ev.assign (.c (v := I 0) rfl)) ?_)
  refine nil ?_
  refine pN ?_
  refine seq ?_
  refine region ?_
  refine cons (opv (Ev.move (.t rfl)) ?_)
  refine cons (opv (Ev.move (.t rfl)) ?_)
  refine cons (opv (Ev.ext (fn := Try.f33) (e := Extern.BytealgCompare.compare) Try.func33 (by kernel_rfl) (by kernel_rfl) (by kernel_rfl) (by kernel_rfl) (.cons (.t rfl) (.cons (.t rfl) .nil)) (fun w I => run_bcompare (by first | exact isSl_own (by repeat first | exact List.Mem.head _ | apply List.Mem.tail) w I | exact IsSl.keep0 (by assumption) I.keeps) (by first | exact isSl_own (by repeat first | exact List.Mem.head _ | apply List.Mem.tail) w I | exact IsSl.keep0 (by assumption) I.keeps))) ?_)
  refine cons (opv (Ev.assign (.t rfl)) ?_)
  refine nil ?_
  refine pN ?_
  refine ret ?_
  refine done rfl (.tmp rfl .nil) (retE ?_)
  first | rfl | (simp; done)

theorem en28 : Enters Try.prog 28 := Enters.mk' (by kernel_rfl)

theorem compare_ok (a b : SKey) (w : World) : Calls Try.prog 10 #[eKey.val a, eKey.val b] w (RetV w (I (cmpK a b))) := by
  refine enter0 10 Try.func10 rfl rfl (Nat.le_of_ble_eq_true rfl) ?_
  refine seq ?_
  refine region ?_
  refine cons (box (E := eKey) (.t rfl) (fun b1 => ?_))
  refine cons (box (E := eKey) (.t rfl) (fun b2 => ?_))
  refine cons (opv (Ev.assign (.c (v := I 0) rfl)) ?_)
  refine nil ?_
  refine pN ?_
  refine seq ?_
  refine draw' (by kernel_rfl) ?_
  refine take 0 rfl (by kernel_rfl) (by kernel_rfl) (by kernel_rfl) (by repeat first | exact List.Sublist.refl _ | apply List.Sublist.cons_cons | apply List.Sublist.cons) (Ev.load ty27 (.t rfl) (ptsVar (by repeat first | exact List.Mem.head _ | apply List.Mem.tail) (Lens.id _))) ?_
  refine take 2 rfl (by kernel_rfl) (by kernel_rfl) (by kernel_rfl) (by repeat first | exact List.Sublist.refl _ | apply List.Sublist.cons_cons | apply List.Sublist.cons) (Ev.load ty27 (.t rfl) (ptsVar (by repeat first | exact List.Mem.head _ | apply List.Mem.tail) (Lens.id _))) ?_
  refine all [1] (by kernel_rfl) (by decide) (.cons rfl ?_ .nil)
  refine (callo en17 (.cons (.t rfl) .nil) (fun w I => bytes_ok _ w) (fun v3 => ?_))
  refine heldN_of (by repeat first | exact List.Sublist.refl _ | apply List.Sublist.cons_cons | apply List.Sublist.cons) ?_
  refine all [3] (by kernel_rfl) (by decide) (.cons rfl ?_ .nil)
  refine (callo en17 (.cons (.t rfl) .nil) (fun w I => bytes_ok _ w) (fun v4 => ?_))
  refine heldN_of (by repeat first | exact List.Sublist.refl _ | apply List.Sublist.cons_cons | apply List.Sublist.cons) ?_
  refine all [4] (by kernel_rfl) (by decide) (.cons rfl ?_ .nil)
  refine (callv en28 (.cons (.t rfl) (.cons (.t rfl) .nil)) (fun w I => bcmp_ok _ _ _ _ w (by first | exact isSl_own (by repeat first | exact List.Mem.head _ | apply List.Mem.tail) w I | exact IsSl.keep0 (by assumption) I.keeps) (by first | exact isSl_own (by repeat first | exact List.Mem.head _ | apply List.Mem.tail) w I | exact IsSl.keep0 (by assumption) I.keeps)) ?_)
  refine heldN_of (by repeat first | exact List.Sublist.refl _ | apply List.Sublist.cons_cons | apply List.Sublist.cons) ?_
  refine take 5 rfl (by kernel_rfl) (by kernel_rfl) (by kernel_rfl) (by repeat first | exact List.Sublist.refl _ | apply List.Sublist.cons_cons | apply List.Sublist.cons) (Ev.assign (.t rfl)) ?_
  refine over (by kernel_rfl) ?_
  refine pN ?_
  refine ret ?_
  refine done rfl (.tmp rfl .nil) (retE ?_)
  first | rfl | (simp; done)

theorem rcompare_ok (a b : SKey) (w : World) : Calls Try.prog 11 #[eKey.val a, eKey.val b] w (RetV w (I (cmpK a b))) := by
  refine enter0 36 Try.func11 rfl rfl (Nat.le_of_ble_eq_true rfl) ?_
  refine seq ?_
  refine region ?_
  refine cons (box (E := eKey) (.t rfl) (fun b1 => ?_))
  refine cons (box (E := eKey) (.t rfl) (fun b2 => ?_))
  refine cons (opv (Ev.assign (.c (v := I 0) rfl)) ?_)
  refine nil ?_
  refine pN ?_
  refine seq ?_
  refine region ?_
  refine cons (opv (Ev.load ty27 (.t rfl) (ptsVar (by repeat first | exact List.Mem.head _ | apply List.Mem.tail) (Lens.id _))) ?_)
  refine cons (callo en19 (.cons (.t rfl) .nil) (fun w I => rbytes_ok _ w) (fun v3 => ?_))
  refine cons (opv (Ev.assign (.t rfl)) ?_)
  refine nil ?_
  refine pN ?_
  refine seq ?_
  refine region ?_
  refine cons (opv (Ev.load ty27 (.t rfl) (ptsVar (by repeat first | exact List.Mem.head _ | apply List.Mem.tail) (Lens.id _))) ?_)
  refine cons (callo en19 (.cons (.t rfl) .nil) (fun w I => rbytes_ok _ w) (fun v4 => ?_))
  refine cons (opv (Ev.assign (.t rfl)) ?_)
  refine nil ?_
  refine pN ?_
  refine seq ?_
  refine seq ?_
  refine region ?_
  refine cons (opv (Ev.assign (.c (v := I 0) rfl)) ?_)
  refine nil ?_
  refine pN ?_
  refine block ?_
  have hka := keyB_length a
  have hkb := keyB_length b
  refine loop (X := Int) (fun x : Int => (0 ≤ x ∧ x ≤ 39) ∧ (Lib.compareBytes ((keyB a).drop x.toNat) ((keyB b).drop x.toNat) = cmpK a b)) (fun x : Int => [(5, true, v3.v), (6, true, v4.v), (7, true, I x)]) (fun x : Int => [OwnS v4.v u8E (keyB b) 5, OwnS v3.v u8E (keyB a) 5]) (fun x : Int => (39 - x).toNat) (0) ⟨?_, ?_⟩ (by repeat first | exact Sub.nil | refine Sub.cons rfl ?_) (by repeat first | exact List.Sublist.refl _ | apply List.Sublist.cons_cons | apply List.Sublist.cons) (fun x hx => ?_)
  · omega
  · rfl
  obtain ⟨i, rfl⟩ : ∃ y, y = x := ⟨x, rfl⟩
  obtain ⟨hi, hh⟩ : (0 ≤ i ∧ i ≤ 39) ∧ (Lib.compareBytes ((keyB a).drop i.toNat) ((keyB b).drop i.toNat) = cmpK a b) := hx
  show Sat _ _ [(5, true, v3.v), (6, true, v4.v), (7, true, I i)] [OwnS v4.v u8E (keyB b) 5, OwnS v3.v u8E (keyB a) 5]
  refine seq ?_
  refine seq ?_
  refine region ?_
  refine cons (opv (Ev.move (.t rfl)) ?_)
  refine cons (opv (Ev.move (.t rfl)) ?_)
  refine cons (opv (Ev.len Try.underlying32 (.t rfl) (by first | exact isSl_own (by repeat first | exact List.Mem.head _ | apply List.Mem.tail) | exact fun w I => IsSl.keep0 (by assumption) I.keeps)) ?_)
  refine cons (opv (Ev.lss_i (.t rfl) (.t rfl)) ?_)
  refine nil ?_
  refine pN ?_
  first | refine condD rfl (fun hlt => ?_) (fun hge => ?_) | refine cond rfl (fun hlt => ?_) (fun hge => ?_)
  · try simp only [Bool.and_eq_true, Bool.or_eq_true, Bool.or_eq_false_iff, Bool.and_eq_false_iff, Bool.not_eq_true', Bool.not_eq_false', decide_eq_true_eq, decide_eq_false_iff_not, Decidable.not_not] at hlt
    refine skip ?_
    refine pN ?_
    refine seq ?_
    refine block ?_
    refine seq ?_
    refine seq ?_
    refine draw' (by kernel_rfl) ?_
    have hst := cmp_step (keyB a) (keyB b) i.toNat (by omega) (by omega)
    refine take 0 rfl (by kernel_rfl) (by kernel_rfl) (by kernel_rfl) (by repeat first | exact List.Sublist.refl _ | apply List.Sublist.cons_cons | apply List.Sublist.cons) (Ev.move (.t rfl)) ?_
    refine take 1 rfl (by kernel_rfl) (by kernel_rfl) (by kernel_rfl) (by repeat first | exact List.Sublist.refl _ | apply List.Sublist.cons_cons | apply List.Sublist.cons) (Ev.move (.t rfl)) ?_
    refine take 2 rfl (by kernel_rfl) (by kernel_rfl) (by kernel_rfl) (by repeat first | exact List.Sublist.refl _ | apply List.Sublist.cons_cons | apply List.Sublist.cons) (Ev.indexAddr Try.underlying32 ty5 (.t rfl) (.t rfl) (by first | exact isSl_own (by repeat first | exact List.Mem.head _ | apply List.Mem.tail) | exact fun w I => IsSl.keep0 (by assumption) I.keeps) (fun _ => by omega)) ?_
    refine take 3 rfl (by kernel_rfl) (by kernel_rfl) (by kernel_rfl) (by repeat first | exact List.Sublist.refl _ | apply List.Sublist.cons_cons | apply List.Sublist.cons) (Ev.loadS0 ty5 (.t rfl) (by first | exact isSl_own (by repeat first | exact List.Mem.head _ | apply List.Mem.tail) | exact fun w I => IsSl.keep0 (by assumption) I.keeps) (fun _ => by omega)) ?_
    refine take 4 rfl (by kernel_rfl) (by kernel_rfl) (by kernel_rfl) (by repeat first | exact List.Sublist.refl _ | apply List.Sublist.cons_cons | apply List.Sublist.cons) (Ev.move (.t rfl)) ?_
    refine take 5 rfl (by kernel_rfl) (by kernel_rfl) (by kernel_rfl) (by repeat first | exact List.Sublist.refl _ | apply List.Sublist.cons_cons | apply List.Sublist.cons) (Ev.move (.t rfl)) ?_
    refine take 6 rfl (by kernel_rfl) (by kernel_rfl) (by kernel_rfl) (by repeat first | exact List.Sublist.refl _ | apply List.Sublist.cons_cons | apply List.Sublist.cons) (Ev.indexAddr Try.underlying32 ty5 (.t rfl) (.t rfl) (by first | exact isSl_own (by repeat first | exact List.Mem.head _ | apply List.Mem.tail) | exact fun w I => IsSl.keep0 (by assumption) I.keeps) (fun _ => by omega)) ?_
    refine take 7 rfl (by kernel_rfl) (by kernel_rfl) (by kernel_rfl) (by repeat first | exact List.Sublist.refl _ | apply List.Sublist.cons_cons | apply List.Sublist.cons) (Ev.loadS0 ty5 (.t rfl) (by first | exact isSl_own (by repeat first | exact List.Mem.head _ | apply List.Mem.tail) | exact fun w I => IsSl.keep0 (by assumption) I.keeps) (fun _ => by omega)) ?_
    refine take 8 rfl (by kernel_rfl) (by kernel_rfl) (by kernel_rfl) (by repeat first | exact List.Sublist.refl _ | apply List.Sublist.cons_cons | apply List.Sublist.cons) (Ev.lss_u8 (.t rfl) (.t rfl)) ?_
    refine over (by kernel_rfl) ?_
    refine pN ?_
    first | refine condD rfl (fun h1 => ?_) (fun h1 => ?_) | refine cond rfl (fun h1 => ?_) (fun h1 => ?_)
    · try simp only [Bool.and_eq_true, Bool.or_eq_true, Bool.or_eq_false_iff, Bool.and_eq_false_iff, Bool.not_eq_true', Bool.not_eq_false', decide_eq_true_eq, decide_eq_false_iff_not, Decidable.not_not] at h1
      refine seq ?_
      refine region ?_
      refine cons (opv (Ev.assign (.c (v := I (-1)) rfl)) ?_)
      refine nil ?_
      refine pN ?_
      refine ret ?_
      refine pR ?_
      refine bR ?_
      refine pR ?_
      refine pR ?_
      refine bR ?_
      refine pR ?_
      refine done rfl (.tmp rfl .nil) (retE ?_)
      first
        | (rw [← hh, hst]; exact congrArg I (if_pos h1).symm)
        | (rw [← hh, hst]; exact congrArg I ((if_neg h1).trans (if_pos h2)).symm)
        | (have e : i.toNat = 39 := by omega
           rw [e, List.drop_eq_nil_of_le (by omega), List.drop_eq_nil_of_le (by omega)] at hh
           rw [← hh]; rfl)
    · try simp only [Bool.and_eq_true, Bool.or_eq_true, Bool.or_eq_false_iff, Bool.and_eq_false_iff, Bool.not_eq_true', Bool.not_eq_false', decide_eq_true_eq, decide_eq_false_iff_not, Decidable.not_not] at h1
      refine skip ?_
      refine pN ?_
      refine seq ?_
      refine draw' (by kernel_rfl) ?_
      refine take 0 rfl (by kernel_rfl) (by kernel_rfl) (by kernel_rfl) (by repeat first | exact List.Sublist.refl _ | apply List.Sublist.cons_cons | apply List.Sublist.cons) (Ev.move (.t rfl)) ?_
      refine take 1 rfl (by kernel_rfl) (by kernel_rfl) (by kernel_rfl) (by repeat first | exact List.Sublist.refl _ | apply List.Sublist.cons_cons | apply List.Sublist.cons) (Ev.move (.t rfl)) ?_
      refine take 2 rfl (by kernel_rfl) (by kernel_rfl) (by kernel_rfl) (by repeat first | exact List.Sublist.refl _ | apply List.Sublist.cons_cons | apply List.Sublist.cons) (Ev.indexAddr Try.underlying32 ty5 (.t rfl) (.t rfl) (by first | exact isSl_own (by repeat first | exact List.Mem.head _ | apply List.Mem.tail) | exact fun w I => IsSl.keep0 (by assumption) I.keeps) (fun _ => by omega)) ?_
      refine take 3 rfl (by kernel_rfl) (by kernel_rfl) (by kernel_rfl) (by repeat first | exact List.Sublist.refl _ | apply List.Sublist.cons_cons | apply List.Sublist.cons) (Ev.loadS0 ty5 (.t rfl) (by first | exact isSl_own (by repeat first | exact List.Mem.head _ | apply List.Mem.tail) | exact fun w I => IsSl.keep0 (by assumption) I.keeps) (fun _ => by omega)) ?_
      refine take 4 rfl (by kernel_rfl) (by kernel_rfl) (by kernel_rfl) (by repeat first | exact List.Sublist.refl _ | apply List.Sublist.cons_cons | apply List.Sublist.cons) (Ev.move (.t rfl)) ?_
      refine take 5 rfl (by kernel_rfl) (by kernel_rfl) (by kernel_rfl) (by repeat first | exact List.Sublist.refl _ | apply List.Sublist.cons_cons | apply List.Sublist.cons) (Ev.move (.t rfl)) ?_
      refine take 6 rfl (by kernel_rfl) (by kernel_rfl) (by kernel_rfl) (by repeat first | exact List.Sublist.refl _ | apply List.Sublist.cons_cons | apply List.Sublist.cons) (Ev.indexAddr Try.underlying32 ty5 (.t rfl) (.t rfl) (by first | exact isSl_own (by repeat first | exact List.Mem.head _ | apply List.Mem.tail) | exact fun w I => IsSl.keep0 (by assumption) I.keeps) (fun _ => by omega)) ?_
      refine take 7 rfl (by kernel_rfl) (by kernel_rfl) (by kernel_rfl) (by repeat first | exact List.Sublist.refl _ | apply List.Sublist.cons_cons | apply List.Sublist.cons) (Ev.loadS0 ty5 (.t rfl) (by first | exact isSl_own (by repeat first | exact List.Mem.head _ | apply List.Mem.tail) | exact fun w I => IsSl.keep0 (by assumption) I.keeps) (fun _ => by omega)) ?_
      refine take 8 rfl (by kernel_rfl) (by kernel_rfl) (by kernel_rfl) (by repeat first | exact List.Sublist.refl _ | apply List.Sublist.cons_cons | apply List.Sublist.cons) (Ev.gtr_u8 (.t rfl) (.t rfl)) ?_
      refine over (by kernel_rfl) ?_
      refine pN ?_
      first | refine condD rfl (fun h2 => ?_) (fun h2 => ?_) | refine cond rfl (fun h2 => ?_) (fun h2 => ?_)
      · try simp only [Bool.and_eq_true, Bool.or_eq_true, Bool.or_eq_false_iff, Bool.and_eq_false_iff, Bool.not_eq_true', Bool.not_eq_false', decide_eq_true_eq, decide_eq_false_iff_not, Decidable.not_not] at h2
        refine seq ?_
        refine region ?_
        refine cons (opv (Ev.assign (.c (v := I 1) rfl)) ?_)
        refine nil ?_
        refine pN ?_
        refine ret ?_
        refine bR ?_
        refine pR ?_
        refine pR ?_
        refine bR ?_
        refine pR ?_
        refine done rfl (.tmp rfl .nil) (retE ?_)
        first
          | (rw [← hh, hst]; exact congrArg I (if_pos h1).symm)
          | (rw [← hh, hst]; exact congrArg I ((if_neg h1).trans (if_pos h2)).symm)
          | (have e : i.toNat = 39 := by omega
             rw [e, List.drop_eq_nil_of_le (by omega), List.drop_eq_nil_of_le (by omega)] at hh
             rw [← hh]; rfl)
      · try simp only [Bool.and_eq_true, Bool.or_eq_true, Bool.or_eq_false_iff, Bool.and_eq_false_iff, Bool.not_eq_true', Bool.not_eq_false', decide_eq_true_eq, decide_eq_false_iff_not, Decidable.not_not] at h2
        refine skip ?_
        refine bN ?_
        refine pN ?_
        refine region ?_
        refine cons (opv (Ev.move (.t rfl)) ?_)
        refine cons (opv (Ev.add_i (.t rfl) (.c (v := I 1) rfl) (fun _ => by omega)) ?_)
        refine cons (opv (Ev.assign (.t rfl)) ?_)
        refine nil ?_
        refine pN ?_
        refine next (X := Int) (i + 1) ⟨?_, ?_⟩ ?_ (by repeat first | exact Sub.nil | refine Sub.cons rfl ?_) (by repeat first | exact List.Sublist.refl _ | apply List.Sublist.cons_cons | apply List.Sublist.cons)
        · try dsimp only
          omega
        · try dsimp only
          rw [show (i + 1).toNat = i.toNat + 1 by omega, ← hh, hst]
          exact ((if_neg h1).trans (if_neg h2)).symm
        · try dsimp only
          omega
  · try simp only [Bool.and_eq_true, Bool.or_eq_true, Bool.or_eq_false_iff, Bool.and_eq_false_iff, Bool.not_eq_true', Bool.not_eq_false', decide_eq_true_eq, decide_eq_false_iff_not, Decidable.not_not] at hge
    refine exit ?_
    refine pX ?_
    refine pX ?_
    refine bX ?_
    refine pN ?_
    refine seq ?_
    refine region ?_
    refine cons (opv (Ev.assign (.c (v := I 0) rfl)) ?_)
    refine nil ?_
    refine pN ?_
    refine ret ?_
    refine done rfl (.tmp rfl .nil) (retE ?_)
    first
      | (rw [← hh, hst]; exact congrArg I (if_pos h1).symm)
      | (rw [← hh, hst]; exact congrArg I ((if_neg h1).trans (if_pos h2)).symm)
      | (have e : i.toNat = 39 := by omega
         rw [e, List.drop_eq_nil_of_le (by omega), List.drop_eq_nil_of_le (by omega)] at hh
         rw [← hh]; rfl)

theorem sign_ok (n : Int) (w : World) : Calls Try.prog 26 #[I n] w (RetV w (.bool (decide (n = 0) || decide (n = 1) || decide (n = -1)))) := by
  refine enter0 13 Try.func26 rfl rfl (Nat.le_of_ble_eq_true rfl) ?_
  refine seq ?_
  refine region ?_
  refine cons (opv (Ev.assign (.c (v := .bool false) rfl)) ?_)
  refine nil ?_
  refine pN ?_
  refine seq ?_
  refine region ?_
  refine cons (opv (Ev.move (.t rfl)) ?_)
  refine cons (opv (Ev.eql_i (.t rfl) (.c (v := I 0) rfl)) ?_)
  refine cons (opv (Ev.move (.t rfl)) ?_)
  refine cons (opg rfl rfl (Ev.move (.t rfl)) ?_)
  refine cons (opg rfl rfl (Ev.eql_i (.g rfl id) (.c (v := I 1) rfl)) ?_)
  refine cons (opv (Ev.pickO (.t rfl) (.c (v := .bool true) rfl) (fun {_} h => by cases h; rfl) ⟨_, rfl⟩ (by first | exact (fun _ h => by rw [h] <;> rfl) | simp_all)) ?_)
  refine cons (opv (Ev.move (.t rfl)) ?_)
  refine cons (opg rfl rfl (Ev.move (.t rfl)) ?_)
  refine cons (opg rfl rfl (Ev.eql_i (.g rfl id) (.c (v := I (-1)) rfl)) ?_)
  refine cons (opv (Ev.pickO (.t rfl) (.c (v := .bool true) rfl) (fun {_} h => by cases h; rfl) ⟨_, rfl⟩ (by first | exact (fun _ h => by rw [h] <;> rfl) | simp_all)) ?_)
  refine cons (opv (Ev.assign (.t rfl)) ?_)
  refine nil ?_
  refine pN ?_
  refine ret ?_
  refine done rfl (.tmp rfl .nil) (retE ?_)
  first | rfl | (simp; done)

def exK : SKey := { src := ⟨false, #v[10, 0, 0, 1, 0, 0, 0, 0, 0, 0, 0, 0, 0, 0, 0, 0]⟩, dst := ⟨false, #v[10, 0, 0, 2, 0, 0, 0, 0, 0, 0, 0, 0, 0, 0, 0, 0]⟩, proto := 17, srcPort := 53, dstPort := 1024 }

theorem example_ok (w : World) : Calls Try.prog 27 #[] w (RetV w (eKey.val exK)) := by
  refine enter0 18 Try.func27 rfl rfl (Nat.le_of_ble_eq_true rfl) ?_
  refine seq ?_
  refine region ?_
  refine cons (alloc z27 (fun b1 => ?_))
  refine nil ?_
  refine pN ?_
  refine seq ?_
  refine region ?_
  refine cons (alloc z27 (fun b2 => ?_))
  refine nil ?_
  refine pN ?_
  refine seq ?_
  refine region ?_
  refine cons (opv (Ev.fieldAddr (o := 0) (.t rfl) (by kernel_rfl)) ?_)
  refine cons (opv (Ev.fieldAddr (o := 1) (.t rfl) (by kernel_rfl)) ?_)
  refine cons (opv (Ev.indexAddrA Try.underlying22 ty5 (.t rfl) (.c (v := I 0) rfl) (fun _ => by omega)) ?_)
  refine cons (storeV ty5 (Lens.comp (Lens.comp SKey.l_src SAddr.l_b) (lArr (n := 16) u8E _ (by omega))) (.t rfl) (.c (v := U8 10) rfl) (by repeat first | exact Upd.head | apply Upd.tail) ?_)
  refine nil ?_
  refine pN ?_
  refine seq ?_
  refine region ?_
  refine cons (opv (Ev.fieldAddr (o := 0) (.t rfl) (by kernel_rfl)) ?_)
  refine cons (opv (Ev.fieldAddr (o := 1) (.t rfl) (by kernel_rfl)) ?_)
  refine cons (opv (Ev.indexAddrA Try.underlying22 ty5 (.t rfl) (.c (v := I 3) rfl) (fun _ => by omega)) ?_)
  refine cons (storeV ty5 (Lens.comp (Lens.comp SKey.l_src SAddr.l_b) (lArr (n := 16) u8E _ (by omega))) (.t rfl) (.c (v := U8 1) rfl) (by repeat first | exact Upd.head | apply Upd.tail) ?_)
  refine nil ?_
  refine pN ?_
  refine seq ?_
  refine region ?_
  refine cons (opv (Ev.fieldAddr (o := 17) (.t rfl) (by kernel_rfl)) ?_)
  refine cons (opv (Ev.fieldAddr (o := 1) (.t rfl) (by kernel_rfl)) ?_)
  refine cons (opv (Ev.indexAddrA Try.underlying22 ty5 (.t rfl) (.c (v := I 0) rfl) (fun _ => by omega)) ?_)
  refine cons (storeV ty5 (Lens.comp (Lens.comp SKey.l_dst SAddr.l_b) (lArr (n := 16) u8E _ (by omega))) (.t rfl) (.c (v := U8 10) rfl) (by repeat first | exact Upd.head | apply Upd.tail) ?_)
  refine nil ?_
  refine pN ?_
  refine seq ?_
  refine region ?_
  refine cons (opv (Ev.fieldAddr (o := 17) (.t rfl) (by kernel_rfl)) ?_)
  refine cons (opv (Ev.fieldAddr (o := 1) (.t rfl) (by kernel_rfl)) ?_)
  refine cons (opv (Ev.indexAddrA Try.underlying22 ty5 (.t rfl) (.c (v := I 3) rfl) (fun _ => by omega)) ?_)
  refine cons (storeV ty5 (Lens.comp (Lens.comp SKey.l_dst SAddr.l_b) (lArr (n := 16) u8E _ (by omega))) (.t rfl) (.c (v := U8 2) rfl) (by repeat first | exact Upd.head | apply Upd.tail) ?_)
  refine nil ?_
  refine pN ?_
  refine seq ?_
  refine region ?_
  refine cons (opv (Ev.fieldAddr (o := 34) (.t rfl) (by kernel_rfl)) ?_)
  refine cons (storeV ty5 SKey.l_proto (.t rfl) (.c (v := U8 17) rfl) (by repeat first | exact Upd.head | apply Upd.tail) ?_)
  refine nil ?_
  refine pN ?_
  refine seq ?_
  refine region ?_
  refine cons (opv (Ev.fieldAddr (o := 35) (.t rfl) (by kernel_rfl)) ?_)
  refine cons (storeV ty25 SKey.l_srcPort (.t rfl) (.c (v := U16 53) rfl) (by repeat first | exact Upd.head | apply Upd.tail) ?_)
  refine nil ?_
  refine pN ?_
  refine seq ?_
  refine region ?_
  refine cons (opv (Ev.fieldAddr (o := 36) (.t rfl) (by kernel_rfl)) ?_)
  refine cons (storeV ty25 SKey.l_dstPort (.t rfl) (.c (v := U16 1024) rfl) (by repeat first | exact Upd.head | apply Upd.tail) ?_)
  refine nil ?_
  refine pN ?_
  refine seq ?_
  refine region ?_
  refine cons (opv (Ev.load ty27 (.t rfl) (ptsVar (by repeat first | exact List.Mem.head _ | apply List.Mem.tail) (Lens.id _))) ?_)
  refine cons (storeV ty27 (Lens.id _) (.t rfl) (.t rfl) (by repeat first | exact Upd.head | apply Upd.tail) ?_)
  refine nil ?_
  refine pN ?_
  refine ret ?_
  refine done rfl (.cell rfl (fun w I => run_loadVar_pts ty27 (ptsVar (by repeat first | exact List.Mem.head _ | apply List.Mem.tail) (Lens.id _) w I)) .nil) (retE ?_)
  first | rfl | (simp; done)

theorem en27 : Enters Try.prog 27 := Enters.mk' (by kernel_rfl)

theorem en15 : Enters Try.prog 15 := Enters.mk' (by kernel_rfl)

theorem en10 : Enters Try.prog 10 := Enters.mk' (by kernel_rfl)

theorem awake_ok (w : World) : Calls Try.prog 12 #[] w (RetV w (.bool true)) := by
  have hkl := keyB_length exK
  refine enter0 66 Try.func12 rfl rfl (Nat.le_of_ble_eq_true rfl) ?_
  refine seq ?_
  refine region ?_
  refine cons (opv (Ev.assign (.c (v := .bool false) rfl)) ?_)
  refine nil ?_
  refine pN ?_
  refine seq ?_
  refine region ?_
  refine cons (callv en27 .nil (fun w I => example_ok w) ?_)
  refine cons (callo en17 (.cons (.t rfl) .nil) (fun w I => bytes_ok _ w) (fun v1 => ?_))
  refine cons (opv (Ev.assign (.t rfl)) ?_)
  refine nil ?_
  refine pN ?_
  refine seq ?_
  refine seq ?_
  refine region ?_
  refine cons (opv (Ev.move (.t rfl)) ?_)
  refine cons (opv (Ev.len Try.underlying32 (.t rfl) (by first | exact isSl_own (by repeat first | exact List.Mem.head _ | apply List.Mem.tail) | exact fun w I => IsSl.keep0 (by assumption) I.keeps)) ?_)
  refine cons (opv (Ev.neq_i (.t rfl) (.c (v := I 39) rfl)) ?_)
  refine nil ?_
  refine pN ?_
  first | refine condD rfl (fun h0 => ?_) (fun h0 => ?_) | refine cond rfl (fun h0 => ?_) (fun h0 => ?_)
  · try simp only [Bool.and_eq_true, Bool.or_eq_true, Bool.or_eq_false_iff, Bool.and_eq_false_iff, Bool.not_eq_true', Bool.not_eq_false', decide_eq_true_eq, decide_eq_false_iff_not, Decidable.not_not] at h0
    refine seq ?_
    refine region ?_
    refine cons (opv (Ev.assign (.c (v := .bool false) rfl)) ?_)
    refine nil ?_
    refine pN ?_
    refine ret ?_
    refine pR ?_
    refine done rfl (.tmp rfl .nil) (retE ?_)
    first | (exfalso; revert h0; decide) | rfl
  · try simp only [Bool.and_eq_true, Bool.or_eq_true, Bool.or_eq_false_iff, Bool.and_eq_false_iff, Bool.not_eq_true', Bool.not_eq_false', decide_eq_true_eq, decide_eq_false_iff_not, Decidable.not_not] at h0
    refine skip ?_
    refine pN ?_
    refine seq ?_
    refine region ?_
    refine cons (opv (Ev.move (.t rfl)) ?_)
    refine cons (opv (Ev.indexAddr Try.underlying32 ty5 (.t rfl) (.c (v := I 1) rfl) (by first | exact isSl_own (by repeat first | exact List.Mem.head _ | apply List.Mem.tail) | exact fun w I => IsSl.keep0 (by assumption) I.keeps) (fun _ => by omega)) ?_)
    refine cons (opv (Ev.loadS0 (i := 1) ty5 (.t rfl) (by first | exact isSl_own (by repeat first | exact List.Mem.head _ | apply List.Mem.tail) | exact fun w I => IsSl.keep0 (by assumption) I.keeps) (fun _ => by omega)) ?_)
    refine cons (opv (Ev.eql_u8 (.t rfl) (.c (v := U8 10) rfl)) ?_)
    refine cons (opv (Ev.move (.t rfl)) ?_)
    refine cons (opg rfl rfl (Ev.move (.t rfl)) ?_)
    refine cons (opg rfl rfl (Ev.indexAddr Try.underlying32 ty5 (.g rfl id) (.c (v := I 4) rfl) (by first | exact isSl_own (by repeat first | exact List.Mem.head _ | apply List.Mem.tail) | exact fun w I => IsSl.keep0 (by assumption) I.keeps) (fun _ => by omega)) ?_)
    refine cons (opg rfl rfl (Ev.loadS0 (i := 4) ty5 (.g rfl id) (by first | exact isSl_own (by repeat first | exact List.Mem.head _ | apply List.Mem.tail) | exact fun w I => IsSl.keep0 (by assumption) I.keeps) (fun _ => by omega)) ?_)
    refine cons (opg rfl rfl (Ev.eql_u8 (.g rfl id) (.c (v := U8 1) rfl)) ?_)
    refine cons (opv (Ev.pickA (.t rfl) (fun {_} h => by cases h; rfl) ⟨_, rfl⟩ (by first | exact (fun _ h => by rw [h] <;> rfl) | simp_all) (.c (v := .bool false) rfl)) ?_)
    refine cons (opv (Ev.move (.t rfl)) ?_)
    refine cons (opg rfl rfl (Ev.move (.t rfl)) ?_)
    refine cons (opg rfl rfl (Ev.indexAddr Try.underlying32 ty5 (.g rfl id) (.c (v := I 18) rfl) (by first | exact isSl_own (by repeat first | exact List.Mem.head _ | apply List.Mem.tail) | exact fun w I => IsSl.keep0 (by assumption) I.keeps) (fun _ => by omega)) ?_)
    refine cons (opg rfl rfl (Ev.loadS0 (i := 18) ty5 (.g rfl id) (by first | exact isSl_own (by repeat first | exact List.Mem.head _ | apply List.Mem.tail) | exact fun w I => IsSl.keep0 (by assumption) I.keeps) (fun _ => by omega)) ?_)
    refine cons (opg rfl rfl (Ev.eql_u8 (.g rfl id) (.c (v := U8 10) rfl)) ?_)
    refine cons (opv (Ev.pickA (.t rfl) (fun {_} h => by cases h; rfl) ⟨_, rfl⟩ (by first | exact (fun _ h => by rw [h] <;> rfl) | simp_all) (.c (v := .bool false) rfl)) ?_)
    refine cons (opv (Ev.move (.t rfl)) ?_)
    refine cons (opg rfl rfl (Ev.move (.t rfl)) ?_)
    refine cons (opg rfl rfl (Ev.indexAddr Try.underlying32 ty5 (.g rfl id) (.c (v := I 21) rfl) (by first | exact isSl_own (by repeat first | exact List.Mem.head _ | apply List.Mem.tail) | exact fun w I => IsSl.keep0 (by assumption) I.keeps) (fun _ => by omega)) ?_)
    refine cons (opg rfl rfl (Ev.loadS0 (i := 21) ty5 (.g rfl id) (by first | exact isSl_own (by repeat first | exact List.Mem.head _ | apply List.Mem.tail) | exact fun w I => IsSl.keep0 (by assumption) I.keeps) (fun _ => by omega)) ?_)
    refine cons (opg rfl rfl (Ev.eql_u8 (.g rfl id) (.c (v := U8 2) rfl)) ?_)
    refine cons (opv (Ev.pickA (.t rfl) (fun {_} h => by cases h; rfl) ⟨_, rfl⟩ (by first | exact (fun _ h => by rw [h] <;> rfl) | simp_all) (.c (v := .bool false) rfl)) ?_)
    refine cons (opv (Ev.move (.t rfl)) ?_)
    refine cons (opg rfl rfl (Ev.move (.t rfl)) ?_)
    refine cons (opg rfl rfl (Ev.indexAddr Try.underlying32 ty5 (.g rfl id) (.c (v := I 34) rfl) (by first | exact isSl_own (by repeat first | exact List.Mem.head _ | apply List.Mem.tail) | exact fun w I => IsSl.keep0 (by assumption) I.keeps) (fun _ => by omega)) ?_)
    refine cons (opg rfl rfl (Ev.loadS0 (i := 34) ty5 (.g rfl id) (by first | exact isSl_own (by repeat first | exact List.Mem.head _ | apply List.Mem.tail) | exact fun w I => IsSl.keep0 (by assumption) I.keeps) (fun _ => by omega)) ?_)
    refine cons (opg rfl rfl (Ev.eql_u8 (.g rfl id) (.c (v := U8 17) rfl)) ?_)
    refine cons (opv (Ev.pickA (.t rfl) (fun {_} h => by cases h; rfl) ⟨_, rfl⟩ (by first | exact (fun _ h => by rw [h] <;> rfl) | simp_all) (.c (v := .bool false) rfl)) ?_)
    refine cons (opv (Ev.move (.t rfl)) ?_)
    refine cons (opg rfl rfl (Ev.move (.t rfl)) ?_)
    refine cons (opg rfl rfl (Ev.indexAddr Try.underlying32 ty5 (.g rfl id) (.c (v := I 35) rfl) (by first | exact isSl_own (by repeat first | exact List.Mem.head _ | apply List.Mem.tail) | exact fun w I => IsSl.keep0 (by assumption) I.keeps) (fun _ => by omega)) ?_)
    refine cons (opg rfl rfl (Ev.loadS0 (i := 35) ty5 (.g rfl id) (by first | exact isSl_own (by repeat first | exact List.Mem.head _ | apply List.Mem.tail) | exact fun w I => IsSl.keep0 (by assumption) I.keeps) (fun _ => by omega)) ?_)
    refine cons (opg rfl rfl (Ev.eql_u8 (.g rfl id) (.c (v := U8 0) rfl)) ?_)
    refine cons (opv (Ev.pickA (.t rfl) (fun {_} h => by cases h; rfl) ⟨_, rfl⟩ (by first | exact (fun _ h => by rw [h] <;> rfl) | simp_all) (.c (v := .bool false) rfl)) ?_)
    refine cons (opv (Ev.move (.t rfl)) ?_)
    refine cons (opg rfl rfl (Ev.move (.t rfl)) ?_)
    refine cons (opg rfl rfl (Ev.indexAddr Try.underlying32 ty5 (.g rfl id) (.c (v := I 36) rfl) (by first | exact isSl_own (by repeat first | exact List.Mem.head _ | apply List.Mem.tail) | exact fun w I => IsSl.keep0 (by assumption) I.keeps) (fun _ => by omega)) ?_)
    refine cons (opg rfl rfl (Ev.loadS0 (i := 36) ty5 (.g rfl id) (by first | exact isSl_own (by repeat first | exact List.Mem.head _ | apply List.Mem.tail) | exact fun w I => IsSl.keep0 (by assumption) I.keeps) (fun _ => by omega)) ?_)
    refine cons (opg rfl rfl (Ev.eql_u8 (.g rfl id) (.c (v := U8 53) rfl)) ?_)
    refine cons (opv (Ev.pickA (.t rfl) (fun {_} h => by cases h; rfl) ⟨_, rfl⟩ (by first | exact (fun _ h => by rw [h] <;> rfl) | simp_all) (.c (v := .bool false) rfl)) ?_)
    refine cons (opv (Ev.move (.t rfl)) ?_)
    refine cons (opg rfl rfl (Ev.move (.t rfl)) ?_)
    refine cons (opg rfl rfl (Ev.indexAddr Try.underlying32 ty5 (.g rfl id) (.c (v := I 37) rfl) (by first | exact isSl_own (by repeat first | exact List.Mem.head _ | apply List.Mem.tail) | exact fun w I => IsSl.keep0 (by assumption) I.keeps) (fun _ => by omega)) ?_)
    refine cons (opg rfl rfl (Ev.loadS0 (i := 37) ty5 (.g rfl id) (by first | exact isSl_own (by repeat first | exact List.Mem.head _ | apply List.Mem.tail) | exact fun w I => IsSl.keep0 (by assumption) I.keeps) (fun _ => by omega)) ?_)
    refine cons (opg rfl rfl (Ev.eql_u8 (.g rfl id) (.c (v := U8 4) rfl)) ?_)
    refine cons (opv (Ev.pickA (.t rfl) (fun {_} h => by cases h; rfl) ⟨_, rfl⟩ (by first | exact (fun _ h => by rw [h] <;> rfl) | simp_all) (.c (v := .bool false) rfl)) ?_)
    refine cons (opv (Ev.move (.t rfl)) ?_)
    refine cons (opg rfl rfl (Ev.move (.t rfl)) ?_)
    refine cons (opg rfl rfl (Ev.indexAddr Try.underlying32 ty5 (.g rfl id) (.c (v := I 38) rfl) (by first | exact isSl_own (by repeat first | exact List.Mem.head _ | apply List.Mem.tail) | exact fun w I => IsSl.keep0 (by assumption) I.keeps) (fun _ => by omega)) ?_)
    refine cons (opg rfl rfl (Ev.loadS0 (i := 38) ty5 (.g rfl id) (by first | exact isSl_own (by repeat first | exact List.Mem.head _ | apply List.Mem.tail) | exact fun w I => IsSl.keep0 (by assumption) I.keeps) (fun _ => by omega)) ?_)
    refine cons (opg rfl rfl (Ev.eql_u8 (.g rfl id) (.c (v := U8 0) rfl)) ?_)
    refine cons (opv (Ev.pickA (.t rfl) (fun {_} h => by cases h; rfl) ⟨_, rfl⟩ (by first | exact (fun _ h => by rw [h] <;> rfl) | simp_all) (.c (v := .bool false) rfl)) ?_)
    refine cons (opv (Ev.move (.t rfl)) ?_)
    refine cons (callg rfl rfl en27 .nil (fun hg w I => example_ok w) ?_)
    refine cons (callg rfl rfl en27 .nil (fun hg w I => example_ok w) ?_)
    refine cons (callg rfl rfl en15 (.cons (.g rfl id) .nil) (fun hg w I => back_ok _ w) ?_)
    refine cons (callg rfl rfl en10 (.cons (.g rfl id) (.cons (.g rfl id) .nil)) (fun hg w I => compare_ok _ _ w) ?_)
    refine cons (opg rfl rfl (Ev.eql_i (.g rfl id) (.c (v := I (-1)) rfl)) ?_)
    refine cons (opv (Ev.pickA (.t rfl) (fun {_} h => by cases h; rfl) ⟨_, rfl⟩ (by first | exact (fun _ h => by rw [h] <;> rfl) | simp_all) (.c (v := .bool false) rfl)) ?_)
    refine cons (opv (Ev.assign (.t rfl)) ?_)
    refine nil ?_
    refine pN ?_
    refine ret ?_
    refine done rfl (.tmp rfl .nil) (retE ?_)
    first | (exfalso; revert h0; decide) | rfl
end Go.Proofs.Ytpdanbpipabboaa
