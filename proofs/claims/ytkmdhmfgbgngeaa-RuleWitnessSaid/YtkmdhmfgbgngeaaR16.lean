/- rule -/
import Derived.Test.YtkmdhmfgbgngeaaR15
set_option linter.unusedVariables false
set_option linter.unusedSimpArgs false
namespace Go.Proofs.Ytkmdhmfgbgngeaa
open Go Go.Gx

structure SLaw19Came where
  in_ : Int
  h : SHeader

def SLaw19Came.to : (Int × SHeader) → SLaw19Came := fun x => ⟨x.1, x.2⟩

def SLaw19Came.of : SLaw19Came → (Int × SHeader) := fun x => (x.in_, x.h)

def eLaw19Came : Enc SLaw19Came := isoE (prodE iE eHeader) SLaw19Came.to SLaw19Came.of

def SLaw19Came.l_in_ : Lens eLaw19Came iE 0 := lIso _ SLaw19Came.to SLaw19Came.of (fun _ => rfl) (lFst iE eHeader)

@[simp] theorem SLaw19Came.get_in_ (x : SLaw19Came) : SLaw19Came.l_in_.get x = x.in_ := rfl

@[simp] theorem SLaw19Came.set_in_ (x : SLaw19Came) (y : Int) : SLaw19Came.l_in_.set x y = { x with in_ := y } := rfl

def SLaw19Came.l_h : Lens eLaw19Came eHeader 1 := lIso _ SLaw19Came.to SLaw19Came.of (fun _ => rfl) (Lens.comp (lSnd iE eHeader) (Lens.id eHeader))

@[simp] theorem SLaw19Came.get_h (x : SLaw19Came) : SLaw19Came.l_h.get x = x.h := rfl

@[simp] theorem SLaw19Came.set_h (x : SLaw19Came) (y : SHeader) : SLaw19Came.l_h.set x y = { x with h := y } := rfl

theorem set_other {α : Type} (l : List α) (k i : Nat) (x d : α) (h : k ≠ i) : (l.set i x).getD k d = l.getD k d := by
  simp [List.getD, List.getElem?_set, Ne.symm h]
theorem first_eq (l : List SMatch) (n : Int) (h : SHeader) (k : Int) (ho : l.all okM = true) : firstF (fun m => metB m n h) l k = firstF (fun m => meetsB m n h) l k := by
  induction l generalizing k with
  | nil => rfl
  | cons m l ih =>
    rw [List.all_cons, Bool.and_eq_true] at ho
    simp only [firstF]
    rw [ih _ ho.2]
    unfold meetsB
    rw [ho.1, Bool.true_and]
theorem compE_all {l : List SMatch} (h : compE l = 0) : l.all okM = true ∧ l.length ≤ 256 := by
  unfold compE at h
  cases h1 : decide (256 < l.length) with
  | true => rw [h1] at h; cases h
  | false =>
    rw [h1] at h
    refine ⟨?_, by simpa using h1⟩
    cases h2 : l.all okM with
    | true => rfl
    | false => rw [h2] at h; cases h

theorem rfirst_ok (u : Value) (l : List SMatch) (n : Int) (h : SHeader) (w : World) (hl : IsSl eMatch w u l) : Calls Try.prog 21 #[u, I n, eHeader.val h] w (RetV w (I (firstF (fun m => meetsB m n h) l 0))) := by
  have hle := hl.le
  refine enter0 22 Try.func21 rfl rfl (Nat.le_of_ble_eq_true rfl) ?_
  refine seq ?_
  refine region ?_
  refine cons (box (E := eHeader) (.t rfl) (fun b1 => ?_))
  refine cons (opv (Ev.assign (.c (v := I 0) rfl)) ?_)
  refine nil ?_
  refine pN ?_
  refine seq ?_
  refine seq ?_
  refine region ?_
  refine cons (opv (Ev.assign (.c (v := I 0) rfl)) ?_)
  refine nil ?_
  refine pN ?_
  refine block ?_
  refine loop (X := Int) (fun x : Int => (0 ≤ x ∧ x ≤ l.length) ∧ (firstF (fun m => meetsB m n h) (l.drop x.toNat) x = firstF (fun m => meetsB m n h) l 0)) (fun x : Int => [(0, true, u), (1, true, I n), (5, true, .pointer (some ⟨b1, 0, none⟩)), (7, true, I x)]) (fun x : Int => [Var b1 eHeader h 35]) (fun x : Int => (l.length - x).toNat) (0) ⟨?_, ?_⟩ (by repeat first | exact Sub.nil | refine Sub.cons rfl ?_) (by repeat first | exact sR | exact sN | apply sC | apply sS | apply sA) (fun x hx => ?_)
  · omega
  · rfl
  obtain ⟨i, rfl⟩ : ∃ y, y = x := ⟨x, rfl⟩
  obtain ⟨hi, hf⟩ : (0 ≤ i ∧ i ≤ l.length) ∧ (firstF (fun m => meetsB m n h) (l.drop i.toNat) i = firstF (fun m => meetsB m n h) l 0) := hx
  show Sat _ _ [(0, true, u), (1, true, I n), (5, true, .pointer (some ⟨b1, 0, none⟩)), (7, true, I i)] [Var b1 eHeader h 35]
  refine seq ?_
  refine seq ?_
  refine region ?_
  refine cons (opv (Ev.move (.t rfl)) ?_)
  refine cons (opv (Ev.move (.t rfl)) ?_)
  refine cons (opv (Ev.len Try.underlying41 (.t rfl) (by first | exact isSl_own (by repeat first | exact mH | apply mT | apply mA) | exact fun w I => IsSl.keep0 (by assumption) I.keeps)) ?_)
  refine cons (opv (Ev.lss_i (.t rfl) (.t rfl)) ?_)
  refine nil ?_
  refine pN ?_
  first | refine condD rfl (fun hlt => ?_) (fun hge => ?_) | refine cond rfl (fun hlt => ?_) (fun hge => ?_)
  · try simp only [Bool.and_eq_true, Bool.or_eq_true, Bool.or_eq_false_iff, Bool.and_eq_false_iff, Bool.not_eq_true', Bool.not_eq_false', decide_eq_true_eq, decide_eq_false_iff_not, Decidable.not_not] at hlt
    refine skip ?_
    refine pN ?_
    refine seq ?_
    refine block ?_
    refine seq ?_
    refine draw' (by kernel_rfl) ?_
    refine take 0 rfl (by kernel_rfl) (by kernel_rfl) (by kernel_rfl) (by repeat first | exact sR | exact sN | apply sC | apply sS | apply sA) (Ev.move (.t rfl)) ?_
    refine take 1 rfl (by kernel_rfl) (by kernel_rfl) (by kernel_rfl) (by repeat first | exact sR | exact sN | apply sC | apply sS | apply sA) (Ev.move (.t rfl)) ?_
    refine take 2 rfl (by kernel_rfl) (by kernel_rfl) (by kernel_rfl) (by repeat first | exact sR | exact sN | apply sC | apply sS | apply sA) (Ev.indexAddr Try.underlying41 ty31 (.t rfl) (.t rfl) (by first | exact isSl_own (by repeat first | exact mH | apply mT | apply mA) | exact fun w I => IsSl.keep0 (by assumption) I.keeps) (fun _ => by omega)) ?_
    refine take 3 rfl (by kernel_rfl) (by kernel_rfl) (by kernel_rfl) (by repeat first | exact sR | exact sN | apply sC | apply sS | apply sA) (Ev.loadS0 ty31 (.t rfl) (by first | exact isSl_own (by repeat first | exact mH | apply mT | apply mA) | exact fun w I => IsSl.keep0 (by assumption) I.keeps) (fun _ => by omega)) ?_
    refine take 4 rfl (by kernel_rfl) (by kernel_rfl) (by kernel_rfl) (by repeat first | exact sR | exact sN | apply sC | apply sS | apply sA) (Ev.move (.t rfl)) ?_
    refine take 5 rfl (by kernel_rfl) (by kernel_rfl) (by kernel_rfl) (by repeat first | exact sR | exact sN | apply sC | apply sS | apply sA) (Ev.load (xv := h) ty35 (.t rfl) (ptsVar (by repeat first | exact mH | apply mT | apply mA) (Lens.id _))) ?_
    refine all [6] (by kernel_rfl) (by decide) (.cons rfl ?_ .nil)
    refine (callv en14 (.cons (.t rfl) (.cons (.t rfl) (.cons (.t rfl) .nil))) (fun w I => rmeets_ok _ _ _ w) ?_)
    refine heldN_of (by repeat first | exact sR | exact sN | apply sC | apply sS | apply sA) ?_
    refine over (by kernel_rfl) ?_
    refine pN ?_
    first | refine condD rfl (fun h1 => ?_) (fun h1 => ?_) | refine cond rfl (fun h1 => ?_) (fun h1 => ?_)
    · refine seq ?_
      refine region ?_
      refine cons (opv (Ev.move (.t rfl)) ?_)
      refine cons (opv (Ev.assign (.t rfl)) ?_)
      refine nil ?_
      refine pN ?_
      refine ret ?_
      refine bR ?_
      refine pR ?_
      refine pR ?_
      refine bR ?_
      refine pR ?_
      refine done rfl (.tmp rfl .nil) (retE ?_)
      rw [← hf, firstF_step _ l i.toNat i (by omega)]
      have h3 : meetsB (l.getD i.toNat eMatch.zero) n h = true := by simpa using h1
      rw [h3]; rfl
    · refine skip ?_
      refine bN ?_
      refine pN ?_
      refine region ?_
      refine cons (opv (Ev.move (.t rfl)) ?_)
      refine cons (opv (Ev.add_i (.t rfl) (.c (v := I 1) rfl) (fun _ => by omega)) ?_)
      refine cons (opv (Ev.assign (.t rfl)) ?_)
      refine nil ?_
      refine pN ?_
      refine next (X := Int) (i + 1) ⟨?_, ?_⟩ ?_ (by repeat first | exact Sub.nil | refine Sub.cons rfl ?_) (by repeat first | exact sR | exact sN | apply sC | apply sS | apply sA)
      · try dsimp only
        omega
      · try dsimp only
        rw [← hf, firstF_step _ l i.toNat i (by omega)]
        have e : (i + 1).toNat = i.toNat + 1 := by omega
        rw [e]
        have h3 : meetsB (l.getD i.toNat eMatch.zero) n h = false := by simpa using h1
        rw [h3]; rfl
      · try dsimp only
        omega
  · try simp only [Bool.and_eq_true, Bool.or_eq_true, Bool.or_eq_false_iff, Bool.and_eq_false_iff, Bool.not_eq_true', Bool.not_eq_false', decide_eq_true_eq, decide_eq_false_iff_not, Decidable.not_not] at hge
    refine exit ?_
    refine pX ?_
    refine pX ?_
    refine bX ?_
    refine pN ?_
    refine seq ?_
    refine region ?_
    refine cons (opv (Ev.assign (.c (v := I (-1)) rfl)) ?_)
    refine nil ?_
    refine pN ?_
    refine ret ?_
    refine done rfl (.tmp rfl .nil) (retE ?_)
    rw [List.drop_eq_nil_of_le (by omega)] at hf
    rw [← hf]; rfl

theorem rdead_ok (u : Value) (l : List SMatch) (w : World) (hl : IsSl eMatch w u l) (hll : l.length ≤ 256) : Calls Try.prog 22 #[u] w (RetO w iE (deadB l) 3) := by
  have hle := hl.le
  refine enter0 36 Try.func22 rfl rfl (Nat.le_of_ble_eq_true rfl) ?_
  refine seq ?_
  refine region ?_
  refine cons (opv (Ev.assign (.c (v := (Go.Value.slice none 0 0)) rfl)) ?_)
  refine nil ?_
  refine pN ?_
  refine seq ?_
  refine region ?_
  refine cons (opv (Ev.assign (.c (v := (Go.Value.slice none 0 0)) rfl)) ?_)
  refine takeNil iE 3 ?_
  refine nil ?_
  refine pN ?_
  refine seq ?_
  refine seq ?_
  refine region ?_
  refine cons (opv (Ev.assign (.c (v := I 0) rfl)) ?_)
  refine nil ?_
  refine pN ?_
  refine block ?_
  refine loop (X := Int × OV × (List Int)) (fun x : Int × OV × (List Int) => (0 ≤ x.1 ∧ x.1 ≤ l.length) ∧ (x.2.2 = deadT l x.1.toNat)) (fun x : Int × OV × (List Int) => [(0, true, u), (3, true, x.2.1.v), (4, true, I x.1)]) (fun x : Int × OV × (List Int) => [OwnS x.2.1.v iE x.2.2 3]) (fun x : Int × OV × (List Int) => (l.length - x.1).toNat) (0, nilSl, []) ⟨?_, ?_⟩ (by repeat first | exact Sub.nil | refine Sub.cons rfl ?_) (by repeat first | exact sR | exact sN | apply sC | apply sS | apply sA) (fun x hx => ?_)
  · omega
  · rfl
  obtain ⟨i, o, ds⟩ := x
  obtain ⟨hi, hd⟩ : (0 ≤ i ∧ i ≤ l.length) ∧ (ds = deadT l i.toNat) := hx
  show Sat _ _ [(0, true, u), (3, true, o.v), (4, true, I i)] [OwnS o.v iE ds 3]
  have hdl := deadT_len l i.toNat
  rw [← hd] at hdl
  refine seq ?_
  refine seq ?_
  refine region ?_
  refine cons (opv (Ev.move (.t rfl)) ?_)
  refine cons (opv (Ev.move (.t rfl)) ?_)
  refine cons (opv (Ev.len Try.underlying41 (.t rfl) (by first | exact isSl_own (by repeat first | exact mH | apply mT | apply mA) | exact fun w I => IsSl.keep0 (by assumption) I.keeps)) ?_)
  refine cons (opv (Ev.lss_i (.t rfl) (.t rfl)) ?_)
  refine nil ?_
  refine pN ?_
  first | refine condD rfl (fun hlt => ?_) (fun hge => ?_) | refine cond rfl (fun hlt => ?_) (fun hge => ?_)
  · try simp only [Bool.and_eq_true, Bool.or_eq_true, Bool.or_eq_false_iff, Bool.and_eq_false_iff, Bool.not_eq_true', Bool.not_eq_false', decide_eq_true_eq, decide_eq_false_iff_not, Decidable.not_not] at hlt
    refine skip ?_
    refine pN ?_
    refine seq ?_
    refine block ?_
    refine seq ?_
    refine region ?_
    refine cons (opv (Ev.assign (.c (v := .bool false) rfl)) ?_)
    refine nil ?_
    refine pN ?_
    refine seq ?_
    refine seq ?_
    refine region ?_
    refine cons (opv (Ev.assign (.c (v := I 0) rfl)) ?_)
    refine nil ?_
    refine pN ?_
    refine block ?_
    refine loop (X := Int × Bool) (fun x : Int × Bool => (0 ≤ x.1 ∧ x.1 ≤ i) ∧ (x.2 = (l.take x.1.toNat).any (fun m => coversM m (l.getD i.toNat eMatch.zero)))) (fun x : Int × Bool => [(0, true, u), (3, true, o.v), (4, true, I i), (5, true, .bool x.2), (6, true, I x.1)]) (fun x : Int × Bool => [OwnS o.v iE ds 3]) (fun x : Int × Bool => (i - x.1).toNat) (0, false) ⟨?_, ?_⟩ (by repeat first | exact Sub.nil | refine Sub.cons rfl ?_) (by repeat first | exact sR | exact sN | apply sC | apply sS | apply sA) (fun x hx => ?_)
    · omega
    · rfl
    obtain ⟨j, d⟩ := x
    obtain ⟨hj, hdd⟩ : (0 ≤ j ∧ j ≤ i) ∧ (d = (l.take j.toNat).any (fun m => coversM m (l.getD i.toNat eMatch.zero))) := hx
    show Sat _ _ [(0, true, u), (3, true, o.v), (4, true, I i), (5, true, .bool d), (6, true, I j)] [OwnS o.v iE ds 3]
    refine seq ?_
    refine seq ?_
    refine region ?_
    refine cons (opv (Ev.move (.t rfl)) ?_)
    refine cons (opv (Ev.move (.t rfl)) ?_)
    refine cons (opv (Ev.lss_i (.t rfl) (.t rfl)) ?_)
    refine nil ?_
    refine pN ?_
    first | refine condD rfl (fun hlt2 => ?_) (fun hge2 => ?_) | refine cond rfl (fun hlt2 => ?_) (fun hge2 => ?_)
    · try simp only [Bool.and_eq_true, Bool.or_eq_true, Bool.or_eq_false_iff, Bool.and_eq_false_iff, Bool.not_eq_true', Bool.not_eq_false', decide_eq_true_eq, decide_eq_false_iff_not, Decidable.not_not] at hlt2
      refine skip ?_
      refine pN ?_
      refine seq ?_
      refine block ?_
      refine draw' (by kernel_rfl) ?_
      refine take 0 rfl (by kernel_rfl) (by kernel_rfl) (by kernel_rfl) (by repeat first | exact sR | exact sN | apply sC | apply sS | apply sA) (Ev.move (.t rfl)) ?_
      refine take 1 rfl (by kernel_rfl) (by kernel_rfl) (by kernel_rfl) (by repeat first | exact sR | exact sN | apply sC | apply sS | apply sA) (Ev.move (.t rfl)) ?_
      refine takeg 2 rfl (by kernel_rfl) (by kernel_rfl) (by kernel_rfl) (by repeat first | exact sR | exact sN | apply sC | apply sS | apply sA) rfl rfl (Ev.move (.t rfl)) ?_
      refine takeg 3 rfl (by kernel_rfl) (by kernel_rfl) (by kernel_rfl) (by repeat first | exact sR | exact sN | apply sC | apply sS | apply sA) rfl rfl (Ev.move (.t rfl)) ?_
      refine takeg 4 rfl (by kernel_rfl) (by kernel_rfl) (by kernel_rfl) (by repeat first | exact sR | exact sN | apply sC | apply sS | apply sA) rfl rfl (Ev.indexAddr Try.underlying41 ty31 (.g rfl id) (.g rfl id) (by first | exact isSl_own (by repeat first | exact mH | apply mT | apply mA) | exact fun w I => IsSl.keep0 (by assumption) I.keeps) (fun _ => by first | omega | (rename_i hg; simp at hg; omega))) ?_
      refine takeg 5 rfl (by kernel_rfl) (by kernel_rfl) (by kernel_rfl) (by repeat first | exact sR | exact sN | apply sC | apply sS | apply sA) rfl rfl (Ev.loadS0 ty31 (.g rfl id) (by first | exact isSl_own (by repeat first | exact mH | apply mT | apply mA) | exact fun w I => IsSl.keep0 (by assumption) I.keeps) (fun _ => by first | omega | (rename_i hg; simp at hg; omega))) ?_
      refine takeg 6 rfl (by kernel_rfl) (by kernel_rfl) (by kernel_rfl) (by repeat first | exact sR | exact sN | apply sC | apply sS | apply sA) rfl rfl (Ev.move (.t rfl)) ?_
      refine takeg 7 rfl (by kernel_rfl) (by kernel_rfl) (by kernel_rfl) (by repeat first | exact sR | exact sN | apply sC | apply sS | apply sA) rfl rfl (Ev.move (.t rfl)) ?_
      refine takeg 8 rfl (by kernel_rfl) (by kernel_rfl) (by kernel_rfl) (by repeat first | exact sR | exact sN | apply sC | apply sS | apply sA) rfl rfl (Ev.indexAddr Try.underlying41 ty31 (.g rfl id) (.g rfl id) (by first | exact isSl_own (by repeat first | exact mH | apply mT | apply mA) | exact fun w I => IsSl.keep0 (by assumption) I.keeps) (fun _ => by first | omega | (rename_i hg; simp at hg; omega))) ?_
      refine takeg 9 rfl (by kernel_rfl) (by kernel_rfl) (by kernel_rfl) (by repeat first | exact sR | exact sN | apply sC | apply sS | apply sA) rfl rfl (Ev.loadS0 ty31 (.g rfl id) (by first | exact isSl_own (by repeat first | exact mH | apply mT | apply mA) | exact fun w I => IsSl.keep0 (by assumption) I.keeps) (fun _ => by first | omega | (rename_i hg; simp at hg; omega))) ?_
      refine all [10] (by kernel_rfl) (by decide) (.cons rfl ?_ .nil)
      refine (callg rfl rfl en26 (.cons (.g rfl id) (.cons (.g rfl id) .nil)) (fun hg w I => rcovers_ok _ _ w) ?_)
      refine heldN_of (by repeat first | exact sR | exact sN | apply sC | apply sS | apply sA) ?_
      refine take 11 rfl (by kernel_rfl) (by kernel_rfl) (by kernel_rfl) (by repeat first | exact sR | exact sN | apply sC | apply sS | apply sA) (Ev.pickO (.t rfl) (.c (v := .bool true) rfl) (fun {_} h => by cases h; rfl) ⟨_, rfl⟩ (by intro h1 h; first | (rw [h] <;> rfl) | (rw [h1, h] <;> rfl) | (rw [h, h1] <;> rfl) | simp_all)) ?_
      refine take 12 rfl (by kernel_rfl) (by kernel_rfl) (by kernel_rfl) (by repeat first | exact sR | exact sN | apply sC | apply sS | apply sA) (Ev.assign (.t rfl)) ?_
      refine over (by kernel_rfl) ?_
      refine bN ?_
      refine pN ?_
      refine region ?_
      refine cons (opv (Ev.move (.t rfl)) ?_)
      refine cons (opv (Ev.add_i (.t rfl) (.c (v := I 1) rfl) (fun _ => by omega)) ?_)
      refine cons (opv (Ev.assign (.t rfl)) ?_)
      refine nil ?_
      refine pN ?_
      refine next (X := Int × Bool) (j + 1, _) ⟨?_, ?_⟩ ?_ (by repeat first | exact Sub.nil | refine Sub.cons rfl ?_) (by repeat first | exact sR | exact sN | apply sC | apply sS | apply sA)
      · try dsimp only
        omega
      · try dsimp only
        rw [take_snoc l j hj.1 (by omega) eMatch.zero, List.any_append, ← hdd, ← covers_eq]
        cases d <;> simp
      · try dsimp only
        omega
    · try simp only [Bool.and_eq_true, Bool.or_eq_true, Bool.or_eq_false_iff, Bool.and_eq_false_iff, Bool.not_eq_true', Bool.not_eq_false', decide_eq_true_eq, decide_eq_false_iff_not, Decidable.not_not] at hge2
      have hda : d = deadAt l i.toNat := by
        have e : j.toNat = i.toNat := by omega
        rw [hdd, e]; rfl
      have hsT := deadT_step l i.toNat
      have ei : (i + 1).toNat = i.toNat + 1 := by omega
      have ei2 : (i.toNat : Int) = i := by omega
      refine exit ?_
      refine pX ?_
      refine pX ?_
      refine bX ?_
      refine pN ?_
      refine seq ?_
      refine region ?_
      refine cons (opv (Ev.move (.t rfl)) ?_)
      refine nil ?_
      refine pN ?_
      first | refine condD rfl (fun h2 => ?_) (fun h2 => ?_) | refine cond rfl (fun h2 => ?_) (fun h2 => ?_)
      · have hst : deadT l (i + 1).toNat = deadT l i.toNat ++ [i] := by
          rw [ei, hsT, ← hda, h2, ei2]; rfl
        refine region ?_
        refine cons (opv (Ev.move (.t rfl)) ?_)
        refine cons (opv (Ev.move (.t rfl)) ?_)
        refine cons (buildSlice (E := iE) Try.underlying46 ty3 z3 (.cons (.t rfl) .nil) rfl rfl (fun v1 => ?_))
        refine cons (append (E := iE) Try.underlying46 ty3 rfl zb3 zs3 (.t rfl) (.t rfl) (fun _ => by repeat first | exact Upd.head | apply Upd.tail | apply Upd.right) (by first | exact isSl_own (by repeat first | exact mH | apply mT | apply mA) | exact fun w I => IsSl.keep0 (by assumption) I.keeps) (⟨by (show _ ≤ 9223372036854775807); first | omega | (simp; done) | (simp; omega), by first | omega | (simp; done) | (simp; omega)⟩) (fun v2 => ?_))
        refine cons (opv (Ev.assign (.t rfl)) ?_)
        refine nil ?_
        refine bN ?_
        refine pN ?_
        refine region ?_
        refine cons (opv (Ev.move (.t rfl)) ?_)
        refine cons (opv (Ev.add_i (.t rfl) (.c (v := I 1) rfl) (fun _ => by omega)) ?_)
        refine cons (opv (Ev.assign (.t rfl)) ?_)
        refine nil ?_
        refine pN ?_
        refine next (X := Int × OV × (List Int)) (i + 1, _, _) ⟨?_, ?_⟩ ?_ (by repeat first | exact Sub.nil | refine Sub.cons rfl ?_) (by repeat first | exact sR | exact sN | apply sC | apply sS | apply sA)
        · try dsimp only
          omega
        · try dsimp only
          rw [hst, ← hd]
        · try dsimp only
          omega
      · have hst : deadT l (i + 1).toNat = deadT l i.toNat := by
          rw [ei, hsT, ← hda, h2]; rfl
        refine skip ?_
        refine bN ?_
        refine pN ?_
        refine region ?_
        refine cons (opv (Ev.move (.t rfl)) ?_)
        refine cons (opv (Ev.add_i (.t rfl) (.c (v := I 1) rfl) (fun _ => by omega)) ?_)
        refine cons (opv (Ev.assign (.t rfl)) ?_)
        refine nil ?_
        refine pN ?_
        refine next (X := Int × OV × (List Int)) (i + 1, _, _) ⟨?_, ?_⟩ ?_ (by repeat first | exact Sub.nil | refine Sub.cons rfl ?_) (by repeat first | exact sR | exact sN | apply sC | apply sS | apply sA)
        · try dsimp only
          omega
        · try dsimp only
          rw [hst, ← hd]
        · try dsimp only
          omega
  · try simp only [Bool.and_eq_true, Bool.or_eq_true, Bool.or_eq_false_iff, Bool.and_eq_false_iff, Bool.not_eq_true', Bool.not_eq_false', decide_eq_true_eq, decide_eq_false_iff_not, Decidable.not_not] at hge
    refine exit ?_
    refine pX ?_
    refine pX ?_
    refine bX ?_
    refine pN ?_
    refine seq ?_
    refine region ?_
    refine cons (opv (Ev.move (.t rfl)) ?_)
    refine cons (opv (Ev.assign (.t rfl)) ?_)
    refine nil ?_
    refine pN ?_
    refine ret ?_
    refine done rfl (.tmp rfl .nil) (retOE (by repeat first | exact mH | apply mT | apply mA) ?_)
    rw [hd]
    unfold deadB
    have e : i.toNat = l.length := by omega
    rw [e]

def SMatch.eqb (x y : SMatch) : Bool := eqd x.asks y.asks && (SSpan.eqb x.in_ y.in_ && (SPrefix.eqb x.src y.src && (SPrefix.eqb x.dst y.dst && (eqd x.proto y.proto && (SSpan.eqb x.srcPort y.srcPort && (SSpan.eqb x.dstPort y.dstPort && (true)))))))

theorem SMatch.eqb_iff (x y : SMatch) : SMatch.eqb x y = true ↔ x = y := by
  obtain ⟨a0, a1, a2, a3, a4, a5, a6⟩ := x
  obtain ⟨b0, b1, b2, b3, b4, b5, b6⟩ := y
  simp only [SMatch.eqb, Bool.and_eq_true, eqd_iff, SSpan.eqb_iff, SPrefix.eqb_iff, SPrefix.eqb_iff, eqd_iff, SSpan.eqb_iff, SSpan.eqb_iff, SMatch.mk.injEq, and_true]

theorem eqok31 : EqOK Try.prog 31 eMatch SMatch.eqb 5 := eqok_struct (fs := _) Try.underlying31 (by kernel_rfl) rfl (EqF.cons (by decide) rfl SMatch.l_asks ty5 (fun d hd => (eqok_u8 Try.underlying5) d (by omega)) (EqF.cons (by decide) rfl SMatch.l_in_ ty24 (fun d hd => eqok24 d (by omega)) (EqF.cons (by decide) rfl SMatch.l_src ty29 eqok29 (EqF.cons (by decide) rfl SMatch.l_dst ty29 eqok29 (EqF.cons (by decide) rfl SMatch.l_proto ty5 (fun d hd => (eqok_u8 Try.underlying5) d (by omega)) (EqF.cons (by decide) rfl SMatch.l_srcPort ty24 (fun d hd => eqok24 d (by omega)) (EqF.cons (by decide) rfl SMatch.l_dstPort ty24 (fun d hd => eqok24 d (by omega)) EqF.nil))))))) (fun _ _ => rfl)

instance : DecidableEq SMatch := fun x y => decidable_of_iff (SMatch.eqb x y = true) (SMatch.eqb_iff x y)

@[simp] theorem SMatch.eqb_dec (x y : SMatch) : SMatch.eqb x y = decide (x = y) := by
  rw [Bool.eq_iff_iff, decide_eq_true_iff]
  exact SMatch.eqb_iff x y

theorem SMatch.eqb_self (x : SMatch) : SMatch.eqb x x = true := (SMatch.eqb_iff x x).2 rfl

theorem ty49 : TyOK Try.prog 49 eLaw19Came := TyOK.mk' (by kernel_rfl) (by kernel_rfl)

theorem en21 : Enters Try.prog 21 := Enters.mk' (by kernel_rfl)

theorem en22 : Enters Try.prog 22 := Enters.mk' (by kernel_rfl)

theorem RuleFirst_walk (u v : Value) (l : List SMatch) (ps : List SLaw19Came) (w : World) (hl : IsSl eMatch w u l) (hps : IsSl eLaw19Came w v ps) (hsz : l.length * 88 ≤ 140737488351232) : Calls Try.prog 5 #[u, v] w (RetV w (.bool true)) := by
  have hle := hl.le
  have hple := hps.le
  refine enter0 154 Try.func5 rfl rfl (Nat.le_of_ble_eq_true rfl) ?_
  refine seq ?_
  refine region ?_
  refine cons (opv (Ev.assign (.c (v := .bool false) rfl)) ?_)
  refine nil ?_
  refine pN ?_
  refine seq ?_
  refine region ?_
  refine cons (opv (Ev.assign (.c (v := (Go.Value.slice none 0 0)) rfl)) ?_)
  refine takeNil eMatch 31 ?_
  refine nil ?_
  refine pN ?_
  refine seq ?_
  refine region ?_
  refine cons (opv (Ev.move (.t rfl)) ?_)
  refine cons (opv (Ev.move (.t rfl)) ?_)
  refine cons (append (E := eMatch) Try.underlying41 ty31 rfl zb31 zs31 (.t rfl) (.t rfl) (fun _ => by repeat first | exact Upd.head | apply Upd.tail | apply Upd.right) (by first | exact isSl_own (by repeat first | exact mH | apply mT | apply mA) | exact fun w I => IsSl.keep0 (by assumption) I.keeps) (⟨by (show _ ≤ 9223372036854775807); simp; omega, by simp; omega⟩) (fun v1 => ?_))
  refine cons (opv (Ev.assign (.t rfl)) ?_)
  refine nil ?_
  refine pN ?_
  refine seq ?_
  refine region ?_
  refine cons (opv (Ev.move (.t rfl)) ?_)
  refine cons (opv (Ev.buildS (fs := _) (places := [(0, 1), (1, 2), (3, 18), (21, 18), (39, 1), (40, 2), (42, 2)]) z31 rfl Try.underlying31 (by kernel_rfl) (.cons (.c (v := U8 77) rfl) .nil) (Fills.cons SMatch.l_asks rfl Fills.nil)) ?_)
  refine cons (buildSlice (E := eMatch) Try.underlying41 ty31 z31 (.cons (.t rfl) .nil) rfl rfl (fun v2 => ?_))
  refine cons (append (E := eMatch) Try.underlying41 ty31 rfl zb31 zs31 (.t rfl) (.t rfl) (fun _ => by repeat first | exact Upd.head | apply Upd.tail | apply Upd.right) (by first | exact isSl_own (by repeat first | exact mH | apply mT | apply mA) | exact fun w I => IsSl.keep0 (by assumption) I.keeps) (⟨by (show _ ≤ 9223372036854775807); simp; omega, by simp; omega⟩) (fun v3 => ?_))
  refine cons (opv (Ev.assign (.t rfl)) ?_)
  refine nil ?_
  refine pN ?_
  refine seq ?_
  refine region ?_
  refine cons (opv (Ev.move (.t rfl)) ?_)
  refine cons (opv (Ev.move (.t rfl)) ?_)
  refine cons (opv (Ev.len Try.underlying41 (.t rfl) (by first | exact isSl_own (by repeat first | exact mH | apply mT | apply mA) | exact fun w I => IsSl.keep0 (by assumption) I.keeps)) ?_)
  refine cons (opv (Ev.sliceH Try.underlying41 ty31 (.t rfl) (.t rfl) (by first | exact isSl_own (by repeat first | exact mH | apply mT | apply mA) | exact fun w I => IsSl.keep0 (by assumption) I.keeps) (fun _ => by simp; omega)) ?_)
  refine cons (calln (X := Nat × List Res) (CompJ l) (compV l) (fun x => x.2) en16 (.cons (.t rfl) .nil) (fun w I => compile_ok _ l w (IsSl.head (xs := l) (ys := [{ eMatch.zero with asks := 77 }]) (isSl_own (by repeat first | exact mH | apply mT | apply mA) w I))) (fun x1 hx1 => ?_))
  refine cons (opv (Ev.move (.t rfl)) ?_)
  refine cons (opv (Ev.to (v' := .pointer (ptrO l x1.1)) (Ev.extract (.t rfl) rfl) (rfl)) ?_)
  refine cons (opv (Ev.extract (.t rfl) rfl) ?_)
  refine cons (opv (Ev.assign (.t rfl)) ?_)
  refine cons (opv (Ev.assign (.t rfl)) ?_)
  refine nil ?_
  refine pN ?_
  refine seq ?_
  refine seq ?_
  refine region ?_
  refine cons (opv (Ev.move (.t rfl)) ?_)
  refine cons (opv (Ev.move (.t rfl)) ?_)
  refine cons (callv en20 (.cons (.t rfl) .nil) (fun w I => rcompile_ok _ l w (hl.keep0 I.keeps)) ?_)
  refine cons (opv (Ev.to (v' := .bool false) (Ev.neq_i (.t rfl) (.t rfl)) (congrArg Value.bool (by simp))) ?_)
  refine cons (opv (Ev.to (v' := .bool false) (Ev.move (.t rfl)) (rfl)) ?_)
  refine cons (opg rfl rfl (Ev.move (.t rfl)) ?_)
  refine cons (opg rfl rfl (Ev.eql_p Try.underlying43 (.g rfl id) (.c rfl)) ?_)
  refine cons (opg rfl rfl (Ev.move (.t rfl)) ?_)
  refine cons (opg rfl rfl (Ev.neq_i (.g rfl id) (.c (v := I 0) rfl)) ?_)
  refine cons (opg rfl rfl (Ev.to (v' := .bool false) (Ev.neq_b Try.underlying4 (.g rfl id) (.g rfl id)) (congrArg Value.bool (by rw [ptrO_nil]; simp))) ?_)
  refine cons (opv (Ev.pickO (.t rfl) (.c (v := .bool true) rfl) (fun {_} h => by cases h; rfl) ⟨_, rfl⟩ (by intro h1 h; first | (rw [h] <;> rfl) | (rw [h1, h] <;> rfl) | (rw [h, h1] <;> rfl) | simp_all)) ?_)
  refine cons (opv (Ev.to (v' := .bool false) (Ev.move (.t rfl)) (rfl)) ?_)
  refine cons (opg rfl rfl (Ev.move (.t rfl)) ?_)
  refine cons (opg rfl rfl (Ev.move (.t rfl)) ?_)
  refine cons (opg rfl rfl (Ev.len Try.underlying41 (.g rfl id) (by first | exact isSl_own (by repeat first | exact mH | apply mT | apply mA) | exact fun w I => IsSl.keep0 (by assumption) I.keeps)) ?_)
  refine cons (opg rfl rfl (Ev.indexAddr Try.underlying41 ty31 (.g rfl id) (.g rfl id) (by first | exact isSl_own (by repeat first | exact mH | apply mT | apply mA) | exact fun w I => IsSl.keep0 (by assumption) I.keeps) (fun _ => by simp; omega)) ?_)
  refine cons (opg rfl rfl (Ev.fieldAddrS (o := 0) (i := (l.length : Int)) (.g rfl id) (by first | exact isSl_own (by repeat first | exact mH | apply mT | apply mA) | exact fun w I => IsSl.keep0 (by assumption) I.keeps) (fun _ => by simp; omega) (by kernel_rfl)) ?_)
  refine cons (opg rfl rfl (Ev.loadS ty5 SMatch.l_asks rfl (.g rfl id) (by first | exact isSl_own (by repeat first | exact mH | apply mT | apply mA) | exact fun w I => IsSl.keep0 (by assumption) I.keeps) (fun _ => by simp; omega)) ?_)
  refine cons (opg rfl rfl (Ev.to (v' := .bool false) (Ev.neq_u8 (.g rfl id) (.c (v := U8 77) rfl)) (congrArg Value.bool (by simp [List.getD]))) ?_)
  refine cons (opv (Ev.pickO (.t rfl) (.c (v := .bool true) rfl) (fun {_} h => by cases h; rfl) ⟨_, rfl⟩ (by intro h1 h; first | (rw [h] <;> rfl) | (rw [h1, h] <;> rfl) | (rw [h, h1] <;> rfl) | simp_all)) ?_)
  refine nil ?_
  refine pN ?_
  refine condF rfl (rfl) ?_
  refine skip ?_
  refine pN ?_
  refine seq ?_
  refine seq ?_
  refine region ?_
  refine cons (opv (Ev.assign (.c (v := I 0) rfl)) ?_)
  refine nil ?_
  refine pN ?_
  refine block ?_
  refine loop (X := Int × (List SMatch)) (fun x : Int × (List SMatch) => (0 ≤ x.1 ∧ x.1 ≤ l.length) ∧ (x.2.length = l.length + 1) ∧ (∀ q : Nat, x.1 ≤ q → q < l.length → x.2.getD q eMatch.zero = l.getD q eMatch.zero)) (fun x : Int × (List SMatch) => [(0, true, u), (1, true, v), (5, true, v3.v), (6, true, .pointer (ptrO l x1.1)), (8, true, I x.1)]) (fun x : Int × (List SMatch) => (x1.2 ++ [OwnS v3.v eMatch x.2 31])) (fun x : Int × (List SMatch) => (l.length - x.1).toNat) (0, _) ⟨?_, ?_, ?_⟩ (by repeat first | exact Sub.nil | refine Sub.cons rfl ?_) (by repeat first | exact List.Sublist.refl _ | exact List.nil_sublist _ | apply List.Sublist.append_left | apply List.Sublist.cons_cons | apply List.Sublist.cons) (fun x hx => ?_)
  · omega
  · simp
  · intro q _ hq
    simp [List.getD, List.getElem?_append, hq]
  obtain ⟨i, xs⟩ := x
  obtain ⟨hi, hxl, hxs⟩ : (0 ≤ i ∧ i ≤ l.length) ∧ (xs.length = l.length + 1) ∧ (∀ q : Nat, i ≤ q → q < l.length → xs.getD q eMatch.zero = l.getD q eMatch.zero) := hx
  show Sat _ _ [(0, true, u), (1, true, v), (5, true, v3.v), (6, true, .pointer (ptrO l x1.1)), (8, true, I i)] (x1.2 ++ [OwnS v3.v eMatch xs 31])
  refine seq ?_
  refine seq ?_
  refine region ?_
  refine cons (opv (Ev.move (.t rfl)) ?_)
  refine cons (opv (Ev.move (.t rfl)) ?_)
  refine cons (opv (Ev.len Try.underlying41 (.t rfl) (fun w I => hl.keep0 I.keeps)) ?_)
  refine cons (opv (Ev.lss_i (.t rfl) (.t rfl)) ?_)
  refine nil ?_
  refine pN ?_
  first | refine condD rfl (fun hlt => ?_) (fun hge => ?_) | refine cond rfl (fun hlt => ?_) (fun hge => ?_)
  · try simp only [Bool.and_eq_true, Bool.or_eq_true, Bool.or_eq_false_iff, Bool.and_eq_false_iff, Bool.not_eq_true', Bool.not_eq_false', decide_eq_true_eq, decide_eq_false_iff_not, Decidable.not_not] at hlt
    refine skip ?_
    refine pN ?_
    refine seq ?_
    refine block ?_
    refine seq ?_
    refine seq ?_
    refine draw' (by kernel_rfl) ?_
    refine take 0 rfl (by kernel_rfl) (by kernel_rfl) (by kernel_rfl) (by repeat first | exact sR | exact sN | apply sC | apply sS | apply sA) (Ev.move (.t rfl)) ?_
    refine take 1 rfl (by kernel_rfl) (by kernel_rfl) (by kernel_rfl) (by repeat first | exact sR | exact sN | apply sC | apply sS | apply sA) (Ev.move (.t rfl)) ?_
    refine take 2 rfl (by kernel_rfl) (by kernel_rfl) (by kernel_rfl) (by repeat first | exact sR | exact sN | apply sC | apply sS | apply sA) (Ev.indexAddr Try.underlying41 ty31 (.t rfl) (.t rfl) (by first | exact isSl_own (by repeat first | exact mH | apply mT | apply mA) | exact fun w I => IsSl.keep0 (by assumption) I.keeps) (fun _ => by omega)) ?_
    refine take 3 rfl (by kernel_rfl) (by kernel_rfl) (by kernel_rfl) (by repeat first | exact sR | exact sN | apply sC | apply sS | apply sA) (Ev.loadS0 ty31 (.t rfl) (by first | exact isSl_own (by repeat first | exact mH | apply mT | apply mA) | exact fun w I => IsSl.keep0 (by assumption) I.keeps) (fun _ => by omega)) ?_
    refine take 4 rfl (by kernel_rfl) (by kernel_rfl) (by kernel_rfl) (by repeat first | exact sR | exact sN | apply sC | apply sS | apply sA) (Ev.move (.t rfl)) ?_
    refine take 5 rfl (by kernel_rfl) (by kernel_rfl) (by kernel_rfl) (by repeat first | exact sR | exact sN | apply sC | apply sS | apply sA) (Ev.move (.t rfl)) ?_
    refine take 6 rfl (by kernel_rfl) (by kernel_rfl) (by kernel_rfl) (by repeat first | exact sR | exact sN | apply sC | apply sS | apply sA) (Ev.indexAddr Try.underlying41 ty31 (.t rfl) (.t rfl) (fun w I => hl.keep0 I.keeps) (fun _ => by omega)) ?_
    refine take 7 rfl (by kernel_rfl) (by kernel_rfl) (by kernel_rfl) (by repeat first | exact sR | exact sN | apply sC | apply sS | apply sA) (Ev.loadS0 ty31 (.t rfl) (fun w I => hl.keep0 I.keeps) (fun _ => by omega)) ?_
    refine take 8 rfl (by kernel_rfl) (by kernel_rfl) (by kernel_rfl) (by repeat first | exact sR | exact sN | apply sC | apply sS | apply sA) (Ev.neqS rfl eqok31 rfl (by kernel_rfl) (.t rfl) (.t rfl)) ?_
    refine over (by kernel_rfl) ?_
    refine pN ?_
    first | refine condD rfl (fun h2 => ?_) (fun h2 => ?_) | refine cond rfl (fun h2 => ?_) (fun h2 => ?_)
    · exfalso
      have h3 := hxs i.toNat (by omega) (by omega)
      rw [h3] at h2
      simp at h2
    · refine skip ?_
      refine pN ?_
      refine region ?_
      refine cons (opv (Ev.move (.t rfl)) ?_)
      refine cons (opv (Ev.move (.t rfl)) ?_)
      refine cons (opv (Ev.buildS (fs := _) (places := [(0, 1), (1, 2), (3, 18), (21, 18), (39, 1), (40, 2), (42, 2)]) z31 rfl Try.underlying31 (by kernel_rfl) (.cons (.c (v := U8 64) rfl) .nil) (Fills.cons SMatch.l_asks rfl Fills.nil)) ?_)
      refine cons (opv (Ev.indexAddr Try.underlying41 ty31 (.t rfl) (.t rfl) (by first | exact isSl_own (by repeat first | exact mH | apply mT | apply mA) | exact fun w I => IsSl.keep0 (by assumption) I.keeps) (fun _ => by omega)) ?_)
      refine cons (storeS0 ty31 (.t rfl) (.t rfl) (by repeat first | exact Upd.head | apply Upd.tail | apply Upd.right) (by omega) ?_)
      refine nil ?_
      refine bN ?_
      refine pN ?_
      refine region ?_
      refine cons (opv (Ev.move (.t rfl)) ?_)
      refine cons (opv (Ev.add_i (.t rfl) (.c (v := I 1) rfl) (fun _ => by omega)) ?_)
      refine cons (opv (Ev.assign (.t rfl)) ?_)
      refine nil ?_
      refine pN ?_
      refine next (X := Int × (List SMatch)) (i + 1, _) ⟨?_, ?_, ?_⟩ ?_ (by repeat first | exact Sub.nil | refine Sub.cons rfl ?_) (by repeat first | exact List.Sublist.refl _ | exact List.nil_sublist _ | apply List.Sublist.append_left | apply List.Sublist.cons_cons | apply List.Sublist.cons)
      · try dsimp only
        omega
      · try dsimp only
        simpa using hxl
      · try dsimp only
        intro q hq1 hq2
        rw [set_other _ _ _ _ _ (by omega)]
        exact hxs q (by omega) hq2
      · try dsimp only
        omega
  · try simp only [Bool.and_eq_true, Bool.or_eq_true, Bool.or_eq_false_iff, Bool.and_eq_false_iff, Bool.not_eq_true', Bool.not_eq_false', decide_eq_true_eq, decide_eq_false_iff_not, Decidable.not_not] at hge
    refine exit ?_
    refine pX ?_
    refine pX ?_
    refine bX ?_
    refine pN ?_
    refine seq ?_
    refine seq ?_
    refine region ?_
    refine cons (opv (Ev.move (.t rfl)) ?_)
    refine cons (opv (Ev.eql_p Try.underlying43 (.t rfl) (.c rfl)) ?_)
    refine nil ?_
    refine pN ?_
    first | refine condD rfl (fun h3 => ?_) (fun h3 => ?_) | refine cond rfl (fun h3 => ?_) (fun h3 => ?_)
    · refine seq ?_
      refine region ?_
      refine cons (callv en15 .nil (fun w I => works_ok w) ?_)
      refine cons (opv (Ev.assign (.t rfl)) ?_)
      refine nil ?_
      refine pN ?_
      refine ret ?_
      refine pR ?_
      refine done rfl (.tmp rfl .nil) (retE ?_)
      rfl
    · have hc : compE l = 0 := by rw [ptrO_nil] at h3; simpa using h3
      obtain ⟨hall, hll⟩ := compE_all hc
      have hdl := deadT_len l l.length
      change (deadB l).length ≤ l.length at hdl
      refine skip ?_
      refine pN ?_
      refine seq ?_
      refine seq ?_
      refine region ?_
      refine cons (opv (Ev.assign (.c (v := I 0) rfl)) ?_)
      refine nil ?_
      refine pN ?_
      refine block ?_
      refine loop (X := Int) (fun x : Int => (0 ≤ x ∧ x ≤ ps.length)) (fun x : Int => [(0, true, u), (1, true, v), (6, true, .pointer (ptrO l x1.1)), (9, true, I x)]) (fun x : Int => x1.2) (fun x : Int => (ps.length - x).toNat) (0) ?_ (by repeat first | exact Sub.nil | refine Sub.cons rfl ?_) (List.sublist_append_left _ _) (fun x hx => ?_)
      · omega
      obtain ⟨i2, rfl⟩ : ∃ y, y = x := ⟨x, rfl⟩
      have hi2 : 0 ≤ i2 ∧ i2 ≤ ps.length := hx
      clear hx
      show Sat _ _ [(0, true, u), (1, true, v), (6, true, .pointer (ptrO l x1.1)), (9, true, I i2)] x1.2
      refine seq ?_
      refine seq ?_
      refine region ?_
      refine cons (opv (Ev.move (.t rfl)) ?_)
      refine cons (opv (Ev.move (.t rfl)) ?_)
      refine cons (opv (Ev.len Try.underlying42 (.t rfl) (fun w I => hps.keep0 I.keeps)) ?_)
      refine cons (opv (Ev.lss_i (.t rfl) (.t rfl)) ?_)
      refine cons (opv (Ev.move (.t rfl)) ?_)
      refine cons (opg rfl rfl (Ev.move (.t rfl)) ?_)
      refine cons (opg rfl rfl (Ev.lss_i (.g rfl id) (.c (v := I 60) rfl)) ?_)
      refine cons (opv (Ev.pickA (.t rfl) (fun {_} h => by cases h; rfl) ⟨_, rfl⟩ (by intro h1 h; first | (rw [h] <;> rfl) | (rw [h1, h] <;> rfl) | (rw [h, h1] <;> rfl) | simp_all) (.c (v := .bool false) rfl)) ?_)
      refine nil ?_
      refine pN ?_
      first | refine condD rfl (fun hlt => ?_) (fun hge => ?_) | refine cond rfl (fun hlt => ?_) (fun hge => ?_)
      · try simp only [Bool.and_eq_true, Bool.or_eq_true, Bool.or_eq_false_iff, Bool.and_eq_false_iff, Bool.not_eq_true', Bool.not_eq_false', decide_eq_true_eq, decide_eq_false_iff_not, Decidable.not_not] at hlt
        refine skip ?_
        refine pN ?_
        refine seq ?_
        refine block ?_
        refine seq ?_
        refine draw' (by kernel_rfl) ?_
        refine take 0 rfl (by kernel_rfl) (by kernel_rfl) (by kernel_rfl) (by repeat first | exact sR | exact sN | apply sC | apply sS | apply sA) (Ev.move (.t rfl)) ?_
        refine take 1 rfl (by kernel_rfl) (by kernel_rfl) (by kernel_rfl) (by repeat first | exact sR | exact sN | apply sC | apply sS | apply sA) (Ev.move (.t rfl)) ?_
        refine take 2 rfl (by kernel_rfl) (by kernel_rfl) (by kernel_rfl) (by repeat first | exact sR | exact sN | apply sC | apply sS | apply sA) (Ev.move (.t rfl)) ?_
        refine take 3 rfl (by kernel_rfl) (by kernel_rfl) (by kernel_rfl) (by repeat first | exact sR | exact sN | apply sC | apply sS | apply sA) (Ev.indexAddr Try.underlying42 ty49 (.t rfl) (.t rfl) (fun w I => hps.keep0 I.keeps) (fun _ => by omega)) ?_
        refine take 4 rfl (by kernel_rfl) (by kernel_rfl) (by kernel_rfl) (by repeat first | exact sR | exact sN | apply sC | apply sS | apply sA) (Ev.fieldAddrS (o := 0) (i := i2) (.t rfl) (fun w I => hps.keep0 I.keeps) (fun _ => by omega) (by kernel_rfl)) ?_
        refine take 5 rfl (by kernel_rfl) (by kernel_rfl) (by kernel_rfl) (by repeat first | exact sR | exact sN | apply sC | apply sS | apply sA) (Ev.loadS ty3 SLaw19Came.l_in_ rfl (.t rfl) (fun w I => hps.keep0 I.keeps) (fun _ => by omega)) ?_
        refine take 6 rfl (by kernel_rfl) (by kernel_rfl) (by kernel_rfl) (by repeat first | exact sR | exact sN | apply sC | apply sS | apply sA) (Ev.move (.t rfl)) ?_
        refine take 7 rfl (by kernel_rfl) (by kernel_rfl) (by kernel_rfl) (by repeat first | exact sR | exact sN | apply sC | apply sS | apply sA) (Ev.move (.t rfl)) ?_
        refine take 8 rfl (by kernel_rfl) (by kernel_rfl) (by kernel_rfl) (by repeat first | exact sR | exact sN | apply sC | apply sS | apply sA) (Ev.indexAddr Try.underlying42 ty49 (.t rfl) (.t rfl) (fun w I => hps.keep0 I.keeps) (fun _ => by omega)) ?_
        refine take 9 rfl (by kernel_rfl) (by kernel_rfl) (by kernel_rfl) (by repeat first | exact sR | exact sN | apply sC | apply sS | apply sA) (Ev.fieldAddrS (o := 1) (i := i2) (.t rfl) (fun w I => hps.keep0 I.keeps) (fun _ => by omega) (by kernel_rfl)) ?_
        refine take 10 rfl (by kernel_rfl) (by kernel_rfl) (by kernel_rfl) (by repeat first | exact sR | exact sN | apply sC | apply sS | apply sA) (Ev.loadS ty35 SLaw19Came.l_h rfl (.t rfl) (fun w I => hps.keep0 I.keeps) (fun _ => by omega)) ?_
        refine take 12 rfl (by kernel_rfl) (by kernel_rfl) (by kernel_rfl) (by repeat first | exact sR | exact sN | apply sC | apply sS | apply sA) (Ev.move (.t rfl)) ?_
        refine take 13 rfl (by kernel_rfl) (by kernel_rfl) (by kernel_rfl) (by repeat first | exact sR | exact sN | apply sC | apply sS | apply sA) (Ev.move (.t rfl)) ?_
        refine take 14 rfl (by kernel_rfl) (by kernel_rfl) (by kernel_rfl) (by repeat first | exact sR | exact sN | apply sC | apply sS | apply sA) (Ev.move (.t rfl)) ?_
        refine take 15 rfl (by kernel_rfl) (by kernel_rfl) (by kernel_rfl) (by repeat first | exact sR | exact sN | apply sC | apply sS | apply sA) (Ev.indexAddr Try.underlying42 ty49 (.t rfl) (.t rfl) (fun w I => hps.keep0 I.keeps) (fun _ => by omega)) ?_
        refine take 16 rfl (by kernel_rfl) (by kernel_rfl) (by kernel_rfl) (by repeat first | exact sR | exact sN | apply sC | apply sS | apply sA) (Ev.fieldAddrS (o := 0) (i := i2) (.t rfl) (fun w I => hps.keep0 I.keeps) (fun _ => by omega) (by kernel_rfl)) ?_
        refine take 17 rfl (by kernel_rfl) (by kernel_rfl) (by kernel_rfl) (by repeat first | exact sR | exact sN | apply sC | apply sS | apply sA) (Ev.loadS ty3 SLaw19Came.l_in_ rfl (.t rfl) (fun w I => hps.keep0 I.keeps) (fun _ => by omega)) ?_
        refine take 18 rfl (by kernel_rfl) (by kernel_rfl) (by kernel_rfl) (by repeat first | exact sR | exact sN | apply sC | apply sS | apply sA) (Ev.move (.t rfl)) ?_
        refine take 19 rfl (by kernel_rfl) (by kernel_rfl) (by kernel_rfl) (by repeat first | exact sR | exact sN | apply sC | apply sS | apply sA) (Ev.move (.t rfl)) ?_
        refine take 20 rfl (by kernel_rfl) (by kernel_rfl) (by kernel_rfl) (by repeat first | exact sR | exact sN | apply sC | apply sS | apply sA) (Ev.indexAddr Try.underlying42 ty49 (.t rfl) (.t rfl) (fun w I => hps.keep0 I.keeps) (fun _ => by omega)) ?_
        refine take 21 rfl (by kernel_rfl) (by kernel_rfl) (by kernel_rfl) (by repeat first | exact sR | exact sN | apply sC | apply sS | apply sA) (Ev.fieldAddrS (o := 1) (i := i2) (.t rfl) (fun w I => hps.keep0 I.keeps) (fun _ => by omega) (by kernel_rfl)) ?_
        refine take 22 rfl (by kernel_rfl) (by kernel_rfl) (by kernel_rfl) (by repeat first | exact sR | exact sN | apply sC | apply sS | apply sA) (Ev.loadS ty35 SLaw19Came.l_h rfl (.t rfl) (fun w I => hps.keep0 I.keeps) (fun _ => by omega)) ?_
        refine all [11] (by kernel_rfl) (by decide) (.cons rfl ?_ .nil)
        refine (callv en18 (.cons (.t rfl) (.cons (.t rfl) (.cons (.t rfl) .nil))) (fun w I => (by have h := first_ok x1.1 l (SLaw19Came.l_in_.get (ps.getD i2.toNat eLaw19Came.zero)) (SLaw19Came.l_h.get (ps.getD i2.toNat eLaw19Came.zero)) w (hx1 hc w (fun r hr => (I.own r (by repeat first | exact hr | exact List.mem_append_left _ hr | apply List.Mem.tail)).1)); rw [← ptrO_ok x1.1 hc] at h; exact h)) ?_)
        refine heldN_of (by repeat first | exact sR | exact sN | apply sC | apply sS | apply sA) ?_
        refine all [23] (by kernel_rfl) (by decide) (.cons rfl ?_ .nil)
        refine (callv en21 (.cons (.t rfl) (.cons (.t rfl) (.cons (.t rfl) .nil))) (fun w I => rfirst_ok _ _ _ _ w (hl.keep0 I.keeps)) ?_)
        refine heldN_of (by repeat first | exact sR | exact sN | apply sC | apply sS | apply sA) ?_
        refine take 24 rfl (by kernel_rfl) (by kernel_rfl) (by kernel_rfl) (by repeat first | exact sR | exact sN | apply sC | apply sS | apply sA) (Ev.neq_i (.t rfl) (.t rfl)) ?_
        refine over (by kernel_rfl) ?_
        refine pN ?_
        first | refine condD rfl (fun h5 => ?_) (fun h5 => ?_) | refine cond rfl (fun h5 => ?_) (fun h5 => ?_)
        · exfalso
          rw [first_eq _ _ _ _ hall] at h5
          simp at h5
        · refine skip ?_
          refine bN ?_
          refine pN ?_
          refine region ?_
          refine cons (opv (Ev.move (.t rfl)) ?_)
          refine cons (opv (Ev.add_i (.t rfl) (.c (v := I 1) rfl) (fun _ => by omega)) ?_)
          refine cons (opv (Ev.assign (.t rfl)) ?_)
          refine nil ?_
          refine pN ?_
          refine next (X := Int) (i2 + 1) ?_ ?_ (by repeat first | exact Sub.nil | refine Sub.cons rfl ?_) (by repeat first | exact List.Sublist.refl _ | exact List.nil_sublist _ | apply List.Sublist.append_left | apply List.Sublist.cons_cons | apply List.Sublist.cons)
          · try dsimp only
            omega
          · try dsimp only
            omega
      · try simp only [Bool.and_eq_true, Bool.or_eq_true, Bool.or_eq_false_iff, Bool.and_eq_false_iff, Bool.not_eq_true', Bool.not_eq_false', decide_eq_true_eq, decide_eq_false_iff_not, Decidable.not_not] at hge
        refine exit ?_
        refine pX ?_
        refine pX ?_
        refine bX ?_
        refine pN ?_
        refine seq ?_
        refine region ?_
        refine cons (opv (Ev.move (.t rfl)) ?_)
        refine cons (callo en17 (.cons (.t rfl) .nil) (fun w I => (by have h := dead_ok x1.1 l w (hx1 hc w (fun r hr => (I.own r (by repeat first | exact hr | exact List.mem_append_left _ hr | apply List.Mem.tail)).1)) (by omega); rw [← ptrO_ok x1.1 hc] at h; exact h)) (fun v4 => ?_))
        refine cons (opv (Ev.move (.t rfl)) ?_)
        refine cons (callo en17 (.cons (.t rfl) .nil) (fun w I => (by have h := dead_ok x1.1 l w (hx1 hc w (fun r hr => (I.own r (by repeat first | exact hr | exact List.mem_append_left _ hr | apply List.Mem.tail)).1)) (by omega); rw [← ptrO_ok x1.1 hc] at h; exact h)) (fun v5 => ?_))
        refine cons (opv (Ev.assign (.t rfl)) ?_)
        refine cons (opv (Ev.assign (.t rfl)) ?_)
        refine nil ?_
        refine pN ?_
        refine seq ?_
        refine region ?_
        refine cons (opv (Ev.move (.t rfl)) ?_)
        refine cons (callo en22 (.cons (.t rfl) .nil) (fun w I => rdead_ok _ l w (hl.keep0 I.keeps) (by omega)) (fun v6 => ?_))
        refine cons (opv (Ev.assign (.t rfl)) ?_)
        refine nil ?_
        refine pN ?_
        refine seq ?_
        refine seq ?_
        refine region ?_
        refine cons (opv (Ev.move (.t rfl)) ?_)
        refine cons (opv (Ev.move (.t rfl)) ?_)
        refine cons (callv en23 (.cons (.t rfl) (.cons (.t rfl) .nil)) (fun w I => sameInts_ok _ _ _ _ w (by first | exact isSl_own (by repeat first | exact mH | apply mT | apply mA) w I | exact IsSl.keep0 (by assumption) I.keeps) (by first | exact isSl_own (by repeat first | exact mH | apply mT | apply mA) w I | exact IsSl.keep0 (by assumption) I.keeps)) ?_)
        refine cons (opv (Ev.not (.t rfl)) ?_)
        refine cons (opv (Ev.to (v' := .bool false) (Ev.move (.t rfl)) (congrArg Value.bool (by simp))) ?_)
        refine cons (opg rfl rfl (Ev.move (.t rfl)) ?_)
        refine cons (callg rfl rfl en24 (.cons (.g rfl id) .nil) (fun hg w I => (by have h := len_ok x1.1 l w (hx1 hc w (fun r hr => (I.own r (by repeat first | exact hr | exact List.mem_append_left _ hr | apply List.Mem.tail)).1)); rw [← ptrO_ok x1.1 hc] at h; exact h)) ?_)
        refine cons (opg rfl rfl (Ev.move (.t rfl)) ?_)
        refine cons (opg rfl rfl (Ev.len Try.underlying41 (.g rfl id) (fun w I => hl.keep0 I.keeps)) ?_)
        refine cons (opg rfl rfl (Ev.neq_i (.g rfl id) (.g rfl id)) ?_)
        refine cons (opv (Ev.pickO (.t rfl) (.c (v := .bool true) rfl) (fun {_} h => by cases h; rfl) ⟨_, rfl⟩ (by intro h1 h; first | (rw [h] <;> rfl) | (rw [h1, h] <;> rfl) | (rw [h, h1] <;> rfl) | simp_all)) ?_)
        refine nil ?_
        refine pN ?_
        first | refine condD rfl (fun h6 => ?_) (fun h6 => ?_) | refine cond rfl (fun h6 => ?_) (fun h6 => ?_)
        · exfalso
          simp at h6
        · refine skip ?_
          refine pN ?_
          refine seq ?_
          refine seq ?_
          refine region ?_
          refine cons (opv (Ev.assign (.c (v := I 0) rfl)) ?_)
          refine nil ?_
          refine pN ?_
          refine block ?_
          refine loop (X := Int × (List Int)) (fun x : Int × (List Int) => (0 ≤ x.1 ∧ x.1 ≤ x.2.length) ∧ (x.2.length = (deadB l).length)) (fun x : Int × (List Int) => [(10, true, v4.v), (11, true, v5.v), (12, true, v6.v), (13, true, I x.1)]) (fun x : Int × (List Int) => [OwnS v6.v iE (deadB l) 3, OwnS v5.v iE (deadB l) 3, OwnS v4.v iE x.2 3]) (fun x : Int × (List Int) => (x.2.length - x.1).toNat) (0, _) ⟨?_, ?_⟩ (by repeat first | exact Sub.nil | refine Sub.cons rfl ?_) (by repeat first | exact List.Sublist.refl _ | exact List.nil_sublist _ | apply List.Sublist.append_left | apply List.Sublist.cons_cons | apply List.Sublist.cons) (fun x hx => ?_)
          · omega
          · rfl
          obtain ⟨j, as1⟩ := x
          obtain ⟨hj, hal⟩ : (0 ≤ j ∧ j ≤ as1.length) ∧ (as1.length = (deadB l).length) := hx
          show Sat _ _ [(10, true, v4.v), (11, true, v5.v), (12, true, v6.v), (13, true, I j)] [OwnS v6.v iE (deadB l) 3, OwnS v5.v iE (deadB l) 3, OwnS v4.v iE as1 3]
          refine seq ?_
          refine seq ?_
          refine region ?_
          refine cons (opv (Ev.move (.t rfl)) ?_)
          refine cons (opv (Ev.move (.t rfl)) ?_)
          refine cons (opv (Ev.len Try.underlying46 (.t rfl) (by first | exact isSl_own (by repeat first | exact mH | apply mT | apply mA) | exact fun w I => IsSl.keep0 (by assumption) I.keeps)) ?_)
          refine cons (opv (Ev.lss_i (.t rfl) (.t rfl)) ?_)
          refine nil ?_
          refine pN ?_
          first | refine condD rfl (fun hlt => ?_) (fun hge => ?_) | refine cond rfl (fun hlt => ?_) (fun hge => ?_)
          · try simp only [Bool.and_eq_true, Bool.or_eq_true, Bool.or_eq_false_iff, Bool.and_eq_false_iff, Bool.not_eq_true', Bool.not_eq_false', decide_eq_true_eq, decide_eq_false_iff_not, Decidable.not_not] at hlt
            refine skip ?_
            refine pN ?_
            refine seq ?_
            refine block ?_
            refine region ?_
            refine cons (opv (Ev.move (.t rfl)) ?_)
            refine cons (opv (Ev.move (.t rfl)) ?_)
            refine cons (opv (Ev.indexAddr Try.underlying46 ty3 (.t rfl) (.t rfl) (by first | exact isSl_own (by repeat first | exact mH | apply mT | apply mA) | exact fun w I => IsSl.keep0 (by assumption) I.keeps) (fun _ => by omega)) ?_)
            refine cons (storeS0 ty3 (.t rfl) (.c (v := I (-9)) rfl) (by repeat first | exact Upd.head | apply Upd.tail | apply Upd.right) (by omega) ?_)
            refine nil ?_
            refine bN ?_
            refine pN ?_
            refine region ?_
            refine cons (opv (Ev.move (.t rfl)) ?_)
            refine cons (opv (Ev.add_i (.t rfl) (.c (v := I 1) rfl) (fun _ => by omega)) ?_)
            refine cons (opv (Ev.assign (.t rfl)) ?_)
            refine nil ?_
            refine pN ?_
            refine next (X := Int × (List Int)) (j + 1, _) ⟨?_, ?_⟩ ?_ (by repeat first | exact Sub.nil | refine Sub.cons rfl ?_) (by repeat first | exact sR | exact sN | apply sC | apply sS | apply sA)
            · try dsimp only
              simp; omega
            · try dsimp only
              simpa using hal
            · try dsimp only
              simp; omega
          · try simp only [Bool.and_eq_true, Bool.or_eq_true, Bool.or_eq_false_iff, Bool.and_eq_false_iff, Bool.not_eq_true', Bool.not_eq_false', decide_eq_true_eq, decide_eq_false_iff_not, Decidable.not_not] at hge
            refine exit ?_
            refine pX ?_
            refine pX ?_
            refine bX ?_
            refine pN ?_
            refine seq ?_
            refine seq ?_
            refine region ?_
            refine cons (opv (Ev.assign (.c (v := I 0) rfl)) ?_)
            refine nil ?_
            refine pN ?_
            refine block ?_
            refine loop (X := Int × OV × (List Int)) (fun x : Int × OV × (List Int) => (0 ≤ x.1 ∧ x.1 ≤ 20) ∧ ((x.2.2.length : Int) = (deadB l).length + x.1)) (fun x : Int × OV × (List Int) => [(10, true, x.2.1.v), (11, true, v5.v), (12, true, v6.v), (14, true, I x.1)]) (fun x : Int × OV × (List Int) => [OwnS v6.v iE (deadB l) 3, OwnS v5.v iE (deadB l) 3, OwnS x.2.1.v iE x.2.2 3]) (fun x : Int × OV × (List Int) => (20 - x.1).toNat) (0, _, _) ⟨?_, ?_⟩ (by repeat first | exact Sub.nil | refine Sub.cons rfl ?_) (by repeat first | exact sR | exact sN | apply sC | apply sS | apply sA) (fun x hx => ?_)
            · omega
            · show (as1.length : Int) = _ + 0; omega
            obtain ⟨q, o, as2⟩ := x
            obtain ⟨hq, hal2⟩ : (0 ≤ q ∧ q ≤ 20) ∧ ((as2.length : Int) = (deadB l).length + q) := hx
            show Sat _ _ [(10, true, o.v), (11, true, v5.v), (12, true, v6.v), (14, true, I q)] [OwnS v6.v iE (deadB l) 3, OwnS v5.v iE (deadB l) 3, OwnS o.v iE as2 3]
            refine seq ?_
            refine seq ?_
            refine region ?_
            refine cons (opv (Ev.move (.t rfl)) ?_)
            refine cons (opv (Ev.lss_i (.t rfl) (.c (v := I 20) rfl)) ?_)
            refine nil ?_
            refine pN ?_
            first | refine condD rfl (fun hlt => ?_) (fun hge => ?_) | refine cond rfl (fun hlt => ?_) (fun hge => ?_)
            · try simp only [Bool.and_eq_true, Bool.or_eq_true, Bool.or_eq_false_iff, Bool.and_eq_false_iff, Bool.not_eq_true', Bool.not_eq_false', decide_eq_true_eq, decide_eq_false_iff_not, Decidable.not_not] at hlt
              refine skip ?_
              refine pN ?_
              refine seq ?_
              refine block ?_
              refine region ?_
              refine cons (opv (Ev.move (.t rfl)) ?_)
              refine cons (buildSlice (E := iE) Try.underlying46 ty3 z3 (.cons (.c (v := I (-8)) rfl) .nil) rfl rfl (fun v7 => ?_))
              refine cons (append (E := iE) Try.underlying46 ty3 rfl zb3 zs3 (.t rfl) (.t rfl) (fun _ => by repeat first | exact Upd.head | apply Upd.tail | apply Upd.right) (by first | exact isSl_own (by repeat first | exact mH | apply mT | apply mA) | exact fun w I => IsSl.keep0 (by assumption) I.keeps) (⟨by (show _ ≤ 9223372036854775807); first | omega | (simp; done) | (simp; omega), by first | omega | (simp; done) | (simp; omega)⟩) (fun v8 => ?_))
              refine cons (opv (Ev.assign (.t rfl)) ?_)
              refine nil ?_
              refine bN ?_
              refine pN ?_
              refine region ?_
              refine cons (opv (Ev.move (.t rfl)) ?_)
              refine cons (opv (Ev.add_i (.t rfl) (.c (v := I 1) rfl) (fun _ => by omega)) ?_)
              refine cons (opv (Ev.assign (.t rfl)) ?_)
              refine nil ?_
              refine pN ?_
              refine next (X := Int × OV × (List Int)) (q + 1, _, _) ⟨?_, ?_⟩ ?_ (by repeat first | exact Sub.nil | refine Sub.cons rfl ?_) (by repeat first | exact sR | exact sN | apply sC | apply sS | apply sA)
              · try dsimp only
                omega
              · try dsimp only
                simp; omega
              · try dsimp only
                omega
            · try simp only [Bool.and_eq_true, Bool.or_eq_true, Bool.or_eq_false_iff, Bool.and_eq_false_iff, Bool.not_eq_true', Bool.not_eq_false', decide_eq_true_eq, decide_eq_false_iff_not, Decidable.not_not] at hge
              refine exit ?_
              refine pX ?_
              refine pX ?_
              refine bX ?_
              refine pN ?_
              refine seq ?_
              refine region ?_
              refine cons (opv (Ev.move (.t rfl)) ?_)
              refine cons (opv (Ev.move (.t rfl)) ?_)
              refine cons (callv en23 (.cons (.t rfl) (.cons (.t rfl) .nil)) (fun w I => sameInts_ok _ _ _ _ w (by first | exact isSl_own (by repeat first | exact mH | apply mT | apply mA) w I | exact IsSl.keep0 (by assumption) I.keeps) (by first | exact isSl_own (by repeat first | exact mH | apply mT | apply mA) w I | exact IsSl.keep0 (by assumption) I.keeps)) ?_)
              refine cons (opv (Ev.move (.t rfl)) ?_)
              refine cons (opg rfl rfl (Ev.move (.t rfl)) ?_)
              refine cons (opg rfl rfl (Ev.len Try.underlying46 (.g rfl id) (by first | exact isSl_own (by repeat first | exact mH | apply mT | apply mA) | exact fun w I => IsSl.keep0 (by assumption) I.keeps)) ?_)
              refine cons (opg rfl rfl (Ev.move (.t rfl)) ?_)
              refine cons (opg rfl rfl (Ev.len Try.underlying46 (.g rfl id) (by first | exact isSl_own (by repeat first | exact mH | apply mT | apply mA) | exact fun w I => IsSl.keep0 (by assumption) I.keeps)) ?_)
              refine cons (opg rfl rfl (Ev.add_i (.g rfl id) (.c (v := I 20) rfl) (fun _ => by first | omega | (rename_i hg; simp at hg; omega))) ?_)
              refine cons (opg rfl rfl (Ev.eql_i (.g rfl id) (.g rfl id)) ?_)
              refine cons (opv (Ev.pickA (.t rfl) (fun {_} h => by cases h; rfl) ⟨_, rfl⟩ (by intro h1 h; first | (rw [h] <;> rfl) | (rw [h1, h] <;> rfl) | (rw [h, h1] <;> rfl) | simp_all) (.c (v := .bool false) rfl)) ?_)
              refine cons (opv (Ev.move (.t rfl)) ?_)
              refine cons (callg rfl rfl en15 .nil (fun hg w I => works_ok w) ?_)
              refine cons (opv (Ev.pickA (.t rfl) (fun {_} h => by cases h; rfl) ⟨_, rfl⟩ (by intro h1 h; first | (rw [h] <;> rfl) | (rw [h1, h] <;> rfl) | (rw [h, h1] <;> rfl) | simp_all) (.c (v := .bool false) rfl)) ?_)
              refine cons (opv (Ev.assign (.t rfl)) ?_)
              refine nil ?_
              refine pN ?_
              refine ret ?_
              refine done rfl (.tmp rfl .nil) (retE ?_)
              refine congrArg Value.bool ?_
              simp
              omega
end Go.Proofs.Ytkmdhmfgbgngeaa
