/- test -/
import Derived.Test.YtpdanbpipabboaaF2
set_option linter.unusedVariables false
set_option linter.unusedSimpArgs false
namespace Go.Proofs.Ytpdanbpipabboaa
open Go Go.Gx

/-- FNV-1a, going on. -/
def hashB (h : UInt64) (l : List UInt8) : UInt64 := l.foldl (fun h x => (h ^^^ x.toUInt64) * 1099511628211) h
theorem hashB_step (g : UInt64) (xs r : List UInt8) (j : Nat) (hj : j < xs.length) : hashB ((g ^^^ (xs.getD j 0).toUInt64) * 1099511628211) (xs.drop (j + 1) ++ r) = hashB g (xs.drop j ++ r) := by
  rw [List.drop_eq_getElem_cons hj]
  have e : xs.getD j 0 = xs[j] := by simp [List.getD, hj]
  rw [e]
  rfl


theorem ty32 : TyOK Try.prog 32 (ovE nilSl) := TyOK.mk' (by kernel_rfl) (by kernel_rfl)

theorem hash_ok (u : Value) (xss : List (List UInt8)) (w : World) (hs : IsSS u8E w u xss) : Calls Try.prog 32 #[u] w (RetV w (U64 (hashB 14695981039346656037 xss.flatten))) := by
  obtain ⟨vs, hvs, hvl, he⟩ := hs
  have hvle := hvs.le
  refine enter0 29 Try.func32 rfl rfl (Nat.le_of_ble_eq_true rfl) ?_
  refine seq ?_
  refine region ?_
  refine cons (opv (Ev.assign (.c (v := U64 0) rfl)) ?_)
  refine nil ?_
  refine pN ?_
  refine seq ?_
  refine region ?_
  refine cons (opv (Ev.assign (.c (v := U64 14695981039346656037) rfl)) ?_)
  refine nil ?_
  refine pN ?_
  refine seq ?_
  refine seq ?_
  refine region ?_
  refine cons (opv (Ev.move (.t rfl)) ?_)
  refine cons (opv (Ev.len Try.underlying63 (.t rfl) (by first | exact isSl_own (by repeat first | exact List.Mem.head _ | apply List.Mem.tail) | exact fun w I => IsSl.keep0 (by assumption) I.keeps)) ?_)
  refine cons (opv (Ev.move (.c (v := I 0) rfl)) ?_)
  refine nil ?_
  refine pN ?_
  refine block ?_
  refine loop (X := Int × UInt64) (fun x : Int × UInt64 => (0 ≤ x.1 ∧ x.1 ≤ xss.length) ∧ (hashB x.2 (xss.drop x.1.toNat).flatten = hashB 14695981039346656037 xss.flatten)) (fun x : Int × UInt64 => [(3, true, U64 x.2), (8, true, u), (9, true, I vs.length), (10, true, I x.1)]) (fun x : Int × UInt64 => []) (fun x : Int × UInt64 => (xss.length - x.1).toNat) (0, _) ⟨?_, ?_⟩ (by repeat first | exact Sub.nil | refine Sub.cons rfl ?_) (by repeat first | exact List.Sublist.refl _ | apply List.Sublist.cons_cons | apply List.Sublist.cons) (fun x hx => ?_)
  · omega
  · rfl
  obtain ⟨i, h⟩ := x
  obtain ⟨hi, hh⟩ : (0 ≤ i ∧ i ≤ xss.length) ∧ (hashB h (xss.drop i.toNat).flatten = hashB 14695981039346656037 xss.flatten) := hx
  show Sat _ _ [(3, true, U64 h), (8, true, u), (9, true, I vs.length), (10, true, I i)] []
  refine seq ?_
  refine region ?_
  refine cons (opv (Ev.lss_i (.t rfl) (.t rfl)) ?_)
  refine nil ?_
  refine pN ?_
  refine seq ?_
  first | refine condD rfl (fun hlt => ?_) (fun hge => ?_) | refine cond rfl (fun hlt => ?_) (fun hge => ?_)
  · try simp only [Bool.and_eq_true, Bool.or_eq_true, Bool.or_eq_false_iff, Bool.and_eq_false_iff, Bool.not_eq_true', Bool.not_eq_false', decide_eq_true_eq, decide_eq_false_iff_not, Decidable.not_not] at hlt
    refine skip ?_
    refine pN ?_
    refine seq ?_
    refine block ?_
    refine seq ?_
    refine region ?_
    refine cons (opv (Ev.indexAddr Try.underlying63 ty32 (.t rfl) (.t rfl) (by first | exact isSl_own (by repeat first | exact List.Mem.head _ | apply List.Mem.tail) | exact fun w I => IsSl.keep0 (by assumption) I.keeps) (fun _ => by omega)) ?_)
    refine cons (opv (Ev.loadS0 ty32 (.t rfl) (by first | exact isSl_own (by repeat first | exact List.Mem.head _ | apply List.Mem.tail) | exact fun w I => IsSl.keep0 (by assumption) I.keeps) (fun _ => by omega)) ?_)
    refine cons (opv (Ev.assign (.t rfl)) ?_)
    refine nil ?_
    refine pN ?_
    refine seq ?_
    refine region ?_
    have hd : xss.drop i.toNat = xss.getD i.toNat [] :: xss.drop (i + 1).toNat := by
      have e : (i + 1).toNat = i.toNat + 1 := by omega
      rw [e, List.drop_eq_getElem_cons (by omega)]; simp [List.getD, show i.toNat < xss.length by omega]
    rw [hd, List.flatten_cons] at hh
    have hx := he i.toNat (by omega)
    have hxl := hx.le
    generalize xss.getD i.toNat [] = xs at hh hx hxl
    change IsSl u8E w (vs.getD i.toNat nilSl).v xs at hx
    refine cons (opv (Ev.move (.t rfl)) ?_)
    refine cons (opv (Ev.len Try.underlying32 (.t rfl) (by first | exact isSl_own (by repeat first | exact List.Mem.head _ | apply List.Mem.tail) | exact fun w I => IsSl.keep0 (by assumption) I.keeps)) ?_)
    refine cons (opv (Ev.move (.c (v := I 0) rfl)) ?_)
    refine nil ?_
    refine pN ?_
    refine block ?_
    refine loop (X := Int × UInt64) (fun x : Int × UInt64 => (0 ≤ x.1 ∧ x.1 ≤ xs.length) ∧ (hashB x.2 (xs.drop x.1.toNat ++ (xss.drop (i + 1).toNat).flatten) = hashB h (xs ++ (xss.drop (i + 1).toNat).flatten))) (fun x : Int × UInt64 => [(3, true, U64 x.2), (8, true, u), (9, true, I vs.length), (10, true, I i), (14, true, (vs.getD i.toNat nilSl).v), (15, true, I xs.length), (16, true, I x.1)]) (fun x : Int × UInt64 => []) (fun x : Int × UInt64 => (xs.length - x.1).toNat) (0, _) ⟨?_, ?_⟩ (by repeat first | exact Sub.nil | refine Sub.cons rfl ?_) (by repeat first | exact List.Sublist.refl _ | apply List.Sublist.cons_cons | apply List.Sublist.cons) (fun x hx => ?_)
    · omega
    · rfl
    obtain ⟨j, g⟩ := x
    obtain ⟨hj, hg⟩ : (0 ≤ j ∧ j ≤ xs.length) ∧ (hashB g (xs.drop j.toNat ++ (xss.drop (i + 1).toNat).flatten) = hashB h (xs ++ (xss.drop (i + 1).toNat).flatten)) := hx
    show Sat _ _ [(3, true, U64 g), (8, true, u), (9, true, I vs.length), (10, true, I i), (14, true, (vs.getD i.toNat nilSl).v), (15, true, I xs.length), (16, true, I j)] []
    refine seq ?_
    refine region ?_
    refine cons (opv (Ev.lss_i (.t rfl) (.t rfl)) ?_)
    refine nil ?_
    refine pN ?_
    refine seq ?_
    first | refine condD rfl (fun hlt2 => ?_) (fun hge2 => ?_) | refine cond rfl (fun hlt2 => ?_) (fun hge2 => ?_)
    · try simp only [Bool.and_eq_true, Bool.or_eq_true, Bool.or_eq_false_iff, Bool.and_eq_false_iff, Bool.not_eq_true', Bool.not_eq_false', decide_eq_true_eq, decide_eq_false_iff_not, Decidable.not_not] at hlt2
      refine skip ?_
      refine pN ?_
      refine seq ?_
      refine block ?_
      refine seq ?_
      refine region ?_
      refine cons (opv (Ev.indexAddr Try.underlying32 ty5 (.t rfl) (.t rfl) (by first | exact isSl_own (by repeat first | exact List.Mem.head _ | apply List.Mem.tail) | exact fun w I => IsSl.keep0 (by assumption) I.keeps) (fun _ => by omega)) ?_)
      refine cons (opv (Ev.loadS0 ty5 (.t rfl) (by first | exact isSl_own (by repeat first | exact List.Mem.head _ | apply List.Mem.tail) | exact fun w I => IsSl.keep0 (by assumption) I.keeps) (fun _ => by omega)) ?_)
      refine cons (opv (Ev.assign (.t rfl)) ?_)
      refine nil ?_
      refine pN ?_
      refine seq ?_
      refine region ?_
      refine cons (opv (Ev.move (.t rfl)) ?_)
      refine cons (opv (Ev.move (.t rfl)) ?_)
      refine cons (opv (Ev.conv_u8_u64 Try.underlying40 Try.underlying5 (.t rfl)) ?_)
      refine cons (opv (Ev.xor_u64 (.t rfl) (.t rfl)) ?_)
      refine cons (opv (Ev.assign (.t rfl)) ?_)
      refine nil ?_
      refine pN ?_
      refine region ?_
      refine cons (opv (Ev.move (.t rfl)) ?_)
      refine cons (opv (Ev.mul_u64 (.t rfl) (.c (v := U64 1099511628211) rfl)) ?_)
      refine cons (opv (Ev.assign (.t rfl)) ?_)
      refine nil ?_
      refine bN ?_
      refine pN ?_
      refine region ?_
      refine cons (opv (Ev.add_i (.t rfl) (.c (v := I 1) rfl) (fun _ => by omega)) ?_)
      refine cons (opv (Ev.move (.t rfl)) ?_)
      refine nil ?_
      refine pN ?_
      refine next (X := Int × UInt64) (j + 1, _) ⟨?_, ?_⟩ ?_ (by repeat first | exact Sub.nil | refine Sub.cons rfl ?_) (by repeat first | exact List.Sublist.refl _ | apply List.Sublist.cons_cons | apply List.Sublist.cons)
      · try dsimp only
        omega
      · try dsimp only
        rw [← hg]
        have e : (j + 1).toNat = j.toNat + 1 := by omega
        rw [e]
        exact hashB_step g xs _ j.toNat (by omega)
      · try dsimp only
        omega
    · try simp only [Bool.and_eq_true, Bool.or_eq_true, Bool.or_eq_false_iff, Bool.and_eq_false_iff, Bool.not_eq_true', Bool.not_eq_false', decide_eq_true_eq, decide_eq_false_iff_not, Decidable.not_not] at hge2
      have hq : hashB g (xss.drop (i + 1).toNat).flatten = hashB h (xs ++ (xss.drop (i + 1).toNat).flatten) := by
        rw [List.drop_eq_nil_of_le (by omega)] at hg; exact hg
      refine exit ?_
      refine pX ?_
      refine pX ?_
      refine bX ?_
      refine bN ?_
      refine pN ?_
      refine region ?_
      refine cons (opv (Ev.add_i (.t rfl) (.c (v := I 1) rfl) (fun _ => by omega)) ?_)
      refine cons (opv (Ev.move (.t rfl)) ?_)
      refine nil ?_
      refine pN ?_
      refine next (X := Int × UInt64) (i + 1, _) ⟨?_, ?_⟩ ?_ (by repeat first | exact Sub.nil | refine Sub.cons rfl ?_) (by repeat first | exact List.Sublist.refl _ | apply List.Sublist.cons_cons | apply List.Sublist.cons)
      · try dsimp only
        omega
      · try dsimp only
        exact hq.trans hh
      · try dsimp only
        omega
  · try simp only [Bool.and_eq_true, Bool.or_eq_true, Bool.or_eq_false_iff, Bool.and_eq_false_iff, Bool.not_eq_true', Bool.not_eq_false', decide_eq_true_eq, decide_eq_false_iff_not, Decidable.not_not] at hge
    refine exit ?_
    refine pX ?_
    refine pX ?_
    refine bX ?_
    refine pN ?_
    refine seq ?_
    refine region ?_
    refine cons (opv (Ev.move (.t rfl)) ?_)
    refine cons (opv (Ev.assign (.t rfl)) ?_)
    refine nil ?_
    refine pN ?_
    refine ret ?_
    refine done rfl (.tmp rfl .nil) (retE ?_)
    have e : xss.drop i.toNat = [] := List.drop_eq_nil_of_le (by omega)
    rw [e] at hh
    rw [← hh]; rfl
end Go.Proofs.Ytpdanbpipabboaa
