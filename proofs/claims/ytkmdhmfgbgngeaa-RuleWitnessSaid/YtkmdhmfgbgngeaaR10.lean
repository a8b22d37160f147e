/- rule -/
import Derived.Test.YtkmdhmfgbgngeaaR9
set_option linter.unusedVariables false
set_option linter.unusedSimpArgs false
namespace Go.Proofs.Ytkmdhmfgbgngeaa
open Go Go.Gx

structure SRuleRules where
  matches_ : OV
  asked : OV

def SRuleRules.to : (OV × OV) → SRuleRules := fun x => ⟨x.1, x.2⟩

def SRuleRules.of : SRuleRules → (OV × OV) := fun x => (x.matches_, x.asked)

def eRuleRules : Enc SRuleRules := isoE (prodE (ovE nilSl) (ovE nilSl)) SRuleRules.to SRuleRules.of

def SRuleRules.l_matches_ : Lens eRuleRules (ovE nilSl) 0 := lIso _ SRuleRules.to SRuleRules.of (fun _ => rfl) (lFst (ovE nilSl) (ovE nilSl))

@[simp] theorem SRuleRules.get_matches_ (x : SRuleRules) : SRuleRules.l_matches_.get x = x.matches_ := rfl

@[simp] theorem SRuleRules.set_matches_ (x : SRuleRules) (y : OV) : SRuleRules.l_matches_.set x y = { x with matches_ := y } := rfl

def SRuleRules.l_asked : Lens eRuleRules (ovE nilSl) 1 := lIso _ SRuleRules.to SRuleRules.of (fun _ => rfl) (Lens.comp (lSnd (ovE nilSl) (ovE nilSl)) (Lens.id (ovE nilSl)))

@[simp] theorem SRuleRules.get_asked (x : SRuleRules) : SRuleRules.l_asked.get x = x.asked := rfl

@[simp] theorem SRuleRules.set_asked (x : SRuleRules) (y : OV) : SRuleRules.l_asked.set x y = { x with asked := y } := rfl

/-- Rules that were made of l stand at block b. -/
def RulesAt (w : World) (b : Nat) (l : List SMatch) : Prop := ∃ (mo ao : OV) (os : List OV) (bs : Nat → Nat), PtsTo eRuleRules w b 0 ⟨mo, ao⟩ ∧ IsSl eMatch w mo.v l ∧ IsSl (ovE nilSl) w ao.v os ∧ os.length = l.length ∧ ∀ k, k < l.length → IsSl (ovE nilFn) w (os.getD k nilSl).v (clos (l.getD k eMatch.zero) (bs k)) ∧ PtsTo eMatch w (bs k) 0 (l.getD k eMatch.zero)
theorem RulesAt.keep {w w' : World} {b : Nat} {l : List SMatch} (h : RulesAt w b l) (k : Keeps Nope w w') : RulesAt w' b l := by
  obtain ⟨mo, ao, os, bs, h1, h2, h3, h4, h5⟩ := h
  exact ⟨mo, ao, os, bs, h1.keep k, h2.keep0 k, h3.keep0 k, h4, fun j hj => ⟨(h5 j hj).1.keep0 k, (h5 j hj).2.keep k⟩⟩
/-- What making rules answers. -/
def compE (l : List SMatch) : Int := bif decide (256 < l.length) then 4 else bif l.all okM then 0 else 190
def ptrO (l : List SMatch) (b : Nat) : Option Addr := bif decide (compE l = 0) then some ⟨b, 0, none⟩ else none
def ptrC (l : List SMatch) (b : Nat) : Value := .pointer (ptrO l b)
theorem ptrO_nil (l : List SMatch) (b : Nat) : (ptrO l b).isNone = decide (¬ compE l = 0) := by
  unfold ptrO
  by_cases h : compE l = 0 <;> simp [h]
theorem ptrO_ok {l : List SMatch} (b : Nat) (h : compE l = 0) : ptrO l b = some ⟨b, 0, none⟩ := by
  unfold ptrO
  simp [h]
theorem ptrO_no {l : List SMatch} (b : Nat) (h : ¬ compE l = 0) : ptrO l b = none := by
  unfold ptrO
  simp [h]
def CompJ (l : List SMatch) (x : Nat × List Res) : Prop := compE l = 0 → ∀ w, (∀ r ∈ x.2, r.A w) → RulesAt w x.1 l
def compV (l : List SMatch) (x : Nat × List Res) : Value := .tuple #[ptrC l x.1, I (compE l)]
theorem all_snoc (l : List SMatch) (i : Int) (h0 : 0 ≤ i) (h1 : i < l.length) (ha : (l.take i.toNat).all okM = true) (hi : okM (l.getD i.toNat eMatch.zero) = true) : (l.take (i + 1).toNat).all okM = true := by
  rw [take_snoc l i h0 h1 eMatch.zero, List.all_append, ha]
  simpa using hi
theorem not_all (l : List SMatch) (i : Nat) (h1 : i < l.length) (hi : okM (l.getD i eMatch.zero) = false) : l.all okM = false := by
  rw [Bool.eq_false_iff]
  intro h
  have := List.all_eq_true.1 h _ (getD_mem l i eMatch.zero h1)
  rw [hi] at this
  cases this

theorem z66 : (Try.prog.info? 66).bind (·.zero) = some (eRuleRules.val eRuleRules.zero) := by kernel_rfl

theorem z31 : (Try.prog.info? 31).bind (·.zero) = some (eMatch.val eMatch.zero) := by kernel_rfl

theorem ty41 : TyOK Try.prog 41 (ovE nilSl) := TyOK.mk' (by kernel_rfl) (by kernel_rfl)

theorem zb31 : (Try.prog.info? 31).map (fun i => (i.zero, i.bytes)) = some (some (eMatch.val eMatch.zero), 88) := by kernel_rfl

theorem zs31 : (eMatch.val eMatch.zero).cells.size = eMatch.size := by rw [Enc.cells_val, List.size_toArray, Enc.len]

theorem ty64 : TyOK Try.prog 64 (ovE nilSl) := TyOK.mk' (by kernel_rfl) (by kernel_rfl)

theorem ty72 : TyOK Try.prog 72 (ovE nilSl) := TyOK.mk' (by kernel_rfl) (by kernel_rfl)

theorem z72 : (Try.prog.info? 72).bind (·.zero) = some ((ovE nilSl).val (ovE nilSl).zero) := by kernel_rfl

theorem zb72 : (Try.prog.info? 72).map (fun i => (i.zero, i.bytes)) = some (some ((ovE nilSl).val (ovE nilSl).zero), 24) := by kernel_rfl

theorem zs72 : ((ovE nilSl).val (ovE nilSl).zero).cells.size = (ovE nilSl).size := by rw [Enc.cells_val, List.size_toArray, Enc.len]

theorem compile_ok (u : Value) (l : List SMatch) (w : World) (hl : IsSl eMatch w u l) : Calls Try.prog 16 #[u] w (RetN w (CompJ l) (compV l) (fun x => x.2)) := by
  have hle := hl.le
  refine enter0 47 Try.func16 rfl rfl (Nat.le_of_ble_eq_true rfl) ?_
  refine seq ?_
  refine region ?_
  refine cons (opv (Ev.assign (.c (v := (Go.Value.pointer none)) rfl)) ?_)
  refine cons (opv (Ev.assign (.c (v := I 0) rfl)) ?_)
  refine nil ?_
  refine pN ?_
  refine seq ?_
  refine seq ?_
  refine region ?_
  refine cons (opv (Ev.move (.t rfl)) ?_)
  refine cons (opv (Ev.len Try.underlying41 (.t rfl) (by first | exact isSl_own (by repeat first | exact mH | apply mT | apply mA) | exact fun w I => IsSl.keep0 (by assumption) I.keeps)) ?_)
  refine cons (opv (Ev.gtr_i (.t rfl) (.c (v := I 256) rfl)) ?_)
  refine nil ?_
  refine pN ?_
  first | refine condD rfl (fun hbig => ?_) (fun hsmall => ?_) | refine cond rfl (fun hbig => ?_) (fun hsmall => ?_)
  · try simp only [Bool.and_eq_true, Bool.or_eq_true, Bool.or_eq_false_iff, Bool.and_eq_false_iff, Bool.not_eq_true', Bool.not_eq_false', decide_eq_true_eq, decide_eq_false_iff_not, Decidable.not_not] at hbig
    refine seq ?_
    refine region ?_
    refine cons (opv (Ev.assign (.c (v := (Go.Value.pointer none)) rfl)) ?_)
    refine cons (opv (Ev.assign (.c (v := I 4) rfl)) ?_)
    refine nil ?_
    refine pN ?_
    refine ret ?_
    refine pR ?_
    refine done rfl (.tmp rfl (.tmp rfl .nil)) (fun w I => ?_)
    have hc : compE l = 4 := by unfold compE; rw [decide_eq_true (by omega)]; rfl
    exact retN (0, []) (fun h => by rw [hc] at h; cases h) (by unfold compV ptrC ptrO; rw [hc]; rfl) (List.nil_sublist _) w I
  · try simp only [Bool.and_eq_true, Bool.or_eq_true, Bool.or_eq_false_iff, Bool.and_eq_false_iff, Bool.not_eq_true', Bool.not_eq_false', decide_eq_true_eq, decide_eq_false_iff_not, Decidable.not_not] at hsmall
    refine skip ?_
    refine pN ?_
    refine seq ?_
    refine region ?_
    refine cons (opv (Ev.buildS (fs := _) (places := [(0, 1), (1, 1)]) z66 rfl Try.underlying66 (by kernel_rfl) .nil Fills.nil) ?_)
    refine cons (box (E := eRuleRules) (.t rfl) (fun b1 => ?_))
    refine cons (opv (Ev.assign (.t rfl)) ?_)
    refine nil ?_
    refine pN ?_
    refine seq ?_
    refine seq ?_
    refine region ?_
    refine cons (opv (Ev.move (.t rfl)) ?_)
    refine cons (opv (Ev.len Try.underlying41 (.t rfl) (by first | exact isSl_own (by repeat first | exact mH | apply mT | apply mA) | exact fun w I => IsSl.keep0 (by assumption) I.keeps)) ?_)
    refine cons (opv (Ev.move (.c (v := I 0) rfl)) ?_)
    refine nil ?_
    refine pN ?_
    refine block ?_
    refine takeNil (ovE nilSl) 72 ?_
    refine takeNil eMatch 31 ?_
    refine loop (X := Int × OV × OV × (List OV) × (List Res) × (Nat → Nat)) (fun x : Int × OV × OV × (List OV) × (List Res) × (Nat → Nat) => (0 ≤ x.1 ∧ x.1 ≤ l.length) ∧ ((x.2.2.2.1.length : Int) = x.1) ∧ ((l.take x.1.toNat).all okM = true) ∧ (∀ w1 : World, (∀ r ∈ x.2.2.2.2.1, r.A w1) → ∀ q : Nat, (q : Int) < x.1 → IsSl (ovE nilFn) w1 (x.2.2.2.1.getD q nilSl).v (clos (l.getD q eMatch.zero) (x.2.2.2.2.2 q)) ∧ PtsTo eMatch w1 (x.2.2.2.2.2 q) 0 (l.getD q eMatch.zero))) (fun x : Int × OV × OV × (List OV) × (List Res) × (Nat → Nat) => [(4, true, .pointer (some ⟨b1, 0, none⟩)), (13, true, u), (14, true, I l.length), (15, true, I x.1)]) (fun x : Int × OV × OV × (List OV) × (List Res) × (Nat → Nat) => (x.2.2.2.2.1 ++ [OwnS x.2.1.v eMatch (l.take x.1.toNat) 31, OwnS x.2.2.1.v (ovE nilSl) x.2.2.2.1 72, Var b1 eRuleRules ⟨x.2.1, x.2.2.1⟩ 66])) (fun x : Int × OV × OV × (List OV) × (List Res) × (Nat → Nat) => (l.length - x.1).toNat) (0, nilSl, nilSl, [], [], fun _ => 0) ⟨?_, ?_, ?_, ?_⟩ (by repeat first | exact Sub.nil | refine Sub.cons rfl ?_) (by repeat first | exact sR | exact sN | apply sC | apply sS | apply sA) (fun x hx => ?_)
    · omega
    · rfl
    · rfl
    · intro w1 _ q hq; exact absurd hq (by show ¬ (q : Int) < 0; omega)
    obtain ⟨i, mo, ao, os, Rs, bs⟩ := x
    obtain ⟨hi, hos, hok, hR⟩ : (0 ≤ i ∧ i ≤ l.length) ∧ ((os.length : Int) = i) ∧ ((l.take i.toNat).all okM = true) ∧ (∀ w1 : World, (∀ r ∈ Rs, r.A w1) → ∀ q : Nat, (q : Int) < i → IsSl (ovE nilFn) w1 (os.getD q nilSl).v (clos (l.getD q eMatch.zero) (bs q)) ∧ PtsTo eMatch w1 (bs q) 0 (l.getD q eMatch.zero)) := hx
    show Sat _ _ [(4, true, .pointer (some ⟨b1, 0, none⟩)), (13, true, u), (14, true, I l.length), (15, true, I i)] (Rs ++ [OwnS mo.v eMatch (l.take i.toNat) 31, OwnS ao.v (ovE nilSl) os 72, Var b1 eRuleRules ⟨mo, ao⟩ 66])
    refine seq ?_
    refine region ?_
    refine cons (opv (Ev.lss_i (.t rfl) (.t rfl)) ?_)
    refine nil ?_
    refine pN ?_
    refine seq ?_
    first | refine condD rfl (fun hlt => ?_) (fun hge => ?_) | refine cond rfl (fun hlt => ?_) (fun hge => ?_)
    · try simp only [Bool.and_eq_true, Bool.or_eq_true, Bool.or_eq_false_iff, Bool.and_eq_false_iff, Bool.not_eq_true', Bool.not_eq_false', decide_eq_true_eq, decide_eq_false_iff_not, Decidable.not_not] at hlt
      refine skip ?_
      refine pN ?_
      refine seq ?_
      refine block ?_
      refine seq ?_
      refine region ?_
      refine cons (opv (Ev.indexAddr Try.underlying41 ty31 (.t rfl) (.t rfl) (by first | exact isSl_own (by repeat first | exact mH | apply mT | apply mA) | exact fun w I => IsSl.keep0 (by assumption) I.keeps) (fun _ => by omega)) ?_)
      refine cons (opv (Ev.loadS0 ty31 (.t rfl) (by first | exact isSl_own (by repeat first | exact mH | apply mT | apply mA) | exact fun w I => IsSl.keep0 (by assumption) I.keeps) (fun _ => by omega)) ?_)
      refine cons (alloc z31 (fun b2 => ?_))
      refine cons (storeV ty31 (Lens.id _) (.t rfl) (.t rfl) (by repeat first | exact Upd.head | apply Upd.tail | apply Upd.right) ?_)
      refine nil ?_
      refine pN ?_
      refine seq ?_
      refine seq ?_
      refine region ?_
      refine cons (opv (Ev.load ty31 (.t rfl) (ptsVar (by repeat first | exact mH | apply mT | apply mA) (Lens.id _))) ?_)
      refine cons (callv en12 (.cons (.t rfl) .nil) (fun w I => check_ok _ w) ?_)
      refine cons (opv (Ev.assign (.t rfl)) ?_)
      refine nil ?_
      refine pN ?_
      refine seq ?_
      refine region ?_
      refine cons (opv (Ev.move (.t rfl)) ?_)
      refine cons (opv (Ev.neq_i (.t rfl) (.c (v := I 0) rfl)) ?_)
      refine nil ?_
      refine pN ?_
      first | refine condD rfl (fun h2 => ?_) (fun h2 => ?_) | refine cond rfl (fun h2 => ?_) (fun h2 => ?_)
      · have hbad : okM (l.getD i.toNat eMatch.zero) = false := by
          have h3 : decide (ckM (l.getD i.toNat eMatch.zero) = 0) = false := by simpa using h2
          rwa [ckM_zero] at h3
        refine seq ?_
        refine region ?_
        refine cons (opv (Ev.move (.t rfl)) ?_)
        refine cons (opv (Ev.assign (.c (v := (Go.Value.pointer none)) rfl)) ?_)
        refine cons (opv (Ev.assign (.t rfl)) ?_)
        refine nil ?_
        refine pN ?_
        refine ret ?_
        refine pR ?_
        refine bR ?_
        refine pR ?_
        refine pR ?_
        refine bR ?_
        refine pR ?_
        refine done rfl (.tmp rfl (.tmp rfl .nil)) (fun w I => ?_)
        have hc : compE l = 190 := by unfold compE; rw [decide_eq_false (by omega), not_all l i.toNat (by omega) hbad]; rfl
        exact retN (0, []) (fun h => by rw [hc] at h; cases h) (by unfold compV ptrC ptrO; rw [hc]; show tupV [.pointer none, Go.Gx.I (ckM (l.getD i.toNat eMatch.zero))] = _; unfold ckM; rw [hbad]; rfl) (List.nil_sublist _) w I
      · have hokm : okM (l.getD i.toNat eMatch.zero) = true := by
          have h3 : decide (ckM (l.getD i.toNat eMatch.zero) = 0) = true := by simpa using h2
          rwa [ckM_zero] at h3
        refine skip ?_
        refine pN ?_
        refine seq ?_
        refine draw [Var b2 eMatch (l.getD i.toNat eMatch.zero) 31] (by kernel_rfl) ?_
        refine take 0 rfl (by kernel_rfl) (by kernel_rfl) (by kernel_rfl) (by repeat first | exact sR | exact sN | apply sC | apply sS | apply sA) (Ev.move (.t rfl)) ?_
        refine take 1 rfl (by kernel_rfl) (by kernel_rfl) (by kernel_rfl) (by repeat first | exact sR | exact sN | apply sC | apply sS | apply sA) (Ev.move (.t rfl)) ?_
        refine take 2 rfl (by kernel_rfl) (by kernel_rfl) (by kernel_rfl) (by repeat first | exact sR | exact sN | apply sC | apply sS | apply sA) (Ev.nilCheck (.t rfl)) ?_
        refine take 3 rfl (by kernel_rfl) (by kernel_rfl) (by kernel_rfl) (by repeat first | exact sR | exact sN | apply sC | apply sS | apply sA) (Ev.fieldAddr (o := 0) (.t rfl) (by kernel_rfl)) ?_
        refine take 5 rfl (by kernel_rfl) (by kernel_rfl) (by kernel_rfl) (by repeat first | exact sR | exact sN | apply sC | apply sS | apply sA) (Ev.load ty31 (.t rfl) (ptsVar (by repeat first | exact mH | apply mT | apply mA) (Lens.id _))) ?_
        refine all [4, 6] (by kernel_rfl) (by decide) (.cons rfl ?_ (.cons rfl ?_ .nil))
        · refine (opv (Ev.load ty41 (.t rfl) (ptsVar (by repeat first | exact mH | apply mT | apply mA) SRuleRules.l_matches_)) ?_)
          refine heldN_of (by repeat first | exact sR | exact sN | apply sC | apply sS | apply sA) ?_
          refine all [6] (by kernel_rfl) (by decide) (.cons rfl ?_ .nil)
          refine (buildSlice (E := eMatch) Try.underlying41 ty31 z31 (.cons (.t rfl) .nil) rfl rfl (fun v3 => ?_))
          refine heldN_of (by repeat first | exact sR | exact sN | apply sC | apply sS | apply sA) ?_
          refine all [7] (by kernel_rfl) (by decide) (.cons rfl ?_ .nil)
          refine (append (E := eMatch) Try.underlying41 ty31 rfl zb31 zs31 (.t rfl) (.t rfl) (fun _ => by repeat first | exact Upd.head | apply Upd.tail | apply Upd.right) (by first | exact isSl_own (by repeat first | exact mH | apply mT | apply mA) | exact fun w I => IsSl.keep0 (by assumption) I.keeps) (⟨by (show _ ≤ 9223372036854775807); first | omega | (simp; done) | (simp; omega), by first | omega | (simp; done) | (simp; omega)⟩) (fun v4 => ?_))
          refine heldN_of (by repeat first | exact sR | exact sN | apply sC | apply sS | apply sA) ?_
          refine take 8 rfl (by kernel_rfl) (by kernel_rfl) (by kernel_rfl) (by repeat first | exact sR | exact sN | apply sC | apply sS | apply sA) (Ev.nilCheck (.t rfl)) ?_
          refine take 9 rfl (by kernel_rfl) (by kernel_rfl) (by kernel_rfl) (by repeat first | exact sR | exact sN | apply sC | apply sS | apply sA) (Ev.fieldAddr (o := 0) (.t rfl) (by kernel_rfl)) ?_
          refine all [10] (by kernel_rfl) (by decide) (.cons rfl ?_ .nil)
          refine (storeV ty41 SRuleRules.l_matches_ (.t rfl) (.t rfl) (by repeat first | exact Upd.head | apply Upd.tail | apply Upd.right) ?_)
          refine heldN_of (by repeat first | exact sR | exact sN | apply sC | apply sS | apply sA) ?_
          refine over (by kernel_rfl) ?_
          refine pN ?_
          refine draw [Var b2 eMatch (l.getD i.toNat eMatch.zero) 31] (by kernel_rfl) ?_
          refine take 0 rfl (by kernel_rfl) (by kernel_rfl) (by kernel_rfl) (by repeat first | exact sR | exact sN | apply sC | apply sS | apply sA) (Ev.move (.t rfl)) ?_
          refine take 1 rfl (by kernel_rfl) (by kernel_rfl) (by kernel_rfl) (by repeat first | exact sR | exact sN | apply sC | apply sS | apply sA) (Ev.move (.t rfl)) ?_
          refine take 2 rfl (by kernel_rfl) (by kernel_rfl) (by kernel_rfl) (by repeat first | exact sR | exact sN | apply sC | apply sS | apply sA) (Ev.nilCheck (.t rfl)) ?_
          refine take 3 rfl (by kernel_rfl) (by kernel_rfl) (by kernel_rfl) (by repeat first | exact sR | exact sN | apply sC | apply sS | apply sA) (Ev.fieldAddr (o := 1) (.t rfl) (by kernel_rfl)) ?_
          refine take 5 rfl (by kernel_rfl) (by kernel_rfl) (by kernel_rfl) (by repeat first | exact sR | exact sN | apply sC | apply sS | apply sA) (Ev.load ty31 (.t rfl) (ptsVar (by repeat first | exact mH | apply mT | apply mA) (Lens.id _))) ?_
          refine all [4, 6] (by kernel_rfl) (by decide) (.cons rfl ?_ (.cons rfl ?_ .nil))
          · refine (opv (Ev.load ty64 (.t rfl) (ptsVar (by repeat first | exact mH | apply mT | apply mA) SRuleRules.l_asked)) ?_)
            refine heldN_of (by repeat first | exact sR | exact sN | apply sC | apply sS | apply sA) ?_
            refine all [6] (by kernel_rfl) (by decide) (.cons rfl ?_ .nil)
            refine (calln (X := OV × Nat) (fun _ => True) (fun x => x.1.v) (fun x => [OwnS x.1.v (ovE nilFn) (clos (l.getD i.toNat eMatch.zero) x.2) 97, Var x.2 eMatch (l.getD i.toNat eMatch.zero) 31]) en37 (.cons (.t rfl) .nil) (fun w I => compiled_ok _ w) (fun x1 _ => ?_))
            refine heldN_of (by repeat first | exact sR | exact sN | apply sC | apply sS | apply sA) ?_
            refine all [7] (by kernel_rfl) (by decide) (.cons rfl ?_ .nil)
            refine (buildSlice (E := (ovE nilSl)) Try.underlying64 ty72 z72 (.cons (.t rfl) .nil) rfl rfl (fun v5 => ?_))
            refine heldN_of (by repeat first | exact sR | exact sN | apply sC | apply sS | apply sA) ?_
            refine all [8] (by kernel_rfl) (by decide) (.cons rfl ?_ .nil)
            refine (append (E := (ovE nilSl)) Try.underlying64 ty72 rfl zb72 zs72 (.t rfl) (.t rfl) (fun _ => by repeat first | exact Upd.head | apply Upd.tail | apply Upd.right) (by first | exact isSl_own (by repeat first | exact mH | apply mT | apply mA) | exact fun w I => IsSl.keep0 (by assumption) I.keeps) (⟨by (show _ ≤ 9223372036854775807); first | omega | (simp; done) | (simp; omega), by first | omega | (simp; done) | (simp; omega)⟩) (fun v6 => ?_))
            refine heldN_of (by repeat first | exact sR | exact sN | apply sC | apply sS | apply sA) ?_
            refine take 9 rfl (by kernel_rfl) (by kernel_rfl) (by kernel_rfl) (by repeat first | exact sR | exact sN | apply sC | apply sS | apply sA) (Ev.nilCheck (.t rfl)) ?_
            refine take 10 rfl (by kernel_rfl) (by kernel_rfl) (by kernel_rfl) (by repeat first | exact sR | exact sN | apply sC | apply sS | apply sA) (Ev.fieldAddr (o := 1) (.t rfl) (by kernel_rfl)) ?_
            refine all [11] (by kernel_rfl) (by decide) (.cons rfl ?_ .nil)
            refine (storeV ty64 SRuleRules.l_asked (.t rfl) (.t rfl) (by repeat first | exact Upd.head | apply Upd.tail | apply Upd.right) ?_)
            refine heldN_of (by repeat first | exact sR | exact sN | apply sC | apply sS | apply sA) ?_
            refine over (by kernel_rfl) ?_
            refine bN ?_
            refine pN ?_
            refine region ?_
            refine cons (opv (Ev.add_i (.t rfl) (.c (v := I 1) rfl) (fun _ => by omega)) ?_)
            refine cons (opv (Ev.move (.t rfl)) ?_)
            refine nil ?_
            refine pN ?_
            refine next (X := Int × OV × OV × (List OV) × (List Res) × (Nat → Nat)) (i + 1, _, _, os ++ [x1.1], OwnS x1.1.v (ovE nilFn) (clos (l.getD i.toNat eMatch.zero) x1.2) 97 :: Var x1.2 eMatch (l.getD i.toNat eMatch.zero) 31 :: Rs, fun q => if q = i.toNat then x1.2 else bs q) ⟨?_, ?_, ?_, ?_⟩ ?_ (by repeat first | exact Sub.nil | refine Sub.cons rfl ?_) (by dsimp only; rw [take_snoc l i hi.1 (by omega) eMatch.zero]; repeat first | exact List.Sublist.refl _ | apply List.Sublist.cons_cons | apply List.Sublist.cons)
            · try dsimp only
              omega
            · try dsimp only
              simp; omega
            · try dsimp only
              exact all_snoc l i hi.1 (by omega) hok hokm
            · try dsimp only
              intro w1 hw q hq
              by_cases e : q = i.toNat
              · subst e
                have e1 : (os ++ [x1.1]).getD i.toNat nilSl = x1.1 := by
                  have : os.length = i.toNat := by omega
                  simp [List.getD, ← this]
                rw [if_pos rfl]
                show IsSl _ _ ((os ++ [x1.1]).getD i.toNat nilSl).v _ ∧ _
                rw [e1]
                exact ⟨IsSl.of_own (hw _ List.mem_cons_self), pts_of_block (hw _ (List.mem_cons_of_mem _ List.mem_cons_self))⟩
              · have e1 : (os ++ [x1.1]).getD q nilSl = os.getD q nilSl := by
                  have : q < os.length := by omega
                  simp [List.getD, List.getElem?_append, this]
                rw [if_neg e]
                show IsSl _ _ ((os ++ [x1.1]).getD q nilSl).v _ ∧ _
                rw [e1]
                exact hR w1 (fun r hr => hw r (List.mem_cons_of_mem _ (List.mem_cons_of_mem _ hr))) q (by omega)
            · try dsimp only
              omega
          · refine (calln (X := OV × Nat) (fun _ => True) (fun x => x.1.v) (fun x => [OwnS x.1.v (ovE nilFn) (clos (l.getD i.toNat eMatch.zero) x.2) 97, Var x.2 eMatch (l.getD i.toNat eMatch.zero) 31]) en37 (.cons (.t rfl) .nil) (fun w I => compiled_ok _ w) (fun x1 _ => ?_))
            refine heldN_of (by repeat first | exact sR | exact sN | apply sC | apply sS | apply sA) ?_
            refine all [4, 7] (by kernel_rfl) (by decide) (.cons rfl ?_ (.cons rfl ?_ .nil))
            · refine (opv (Ev.load ty64 (.t rfl) (ptsVar (by repeat first | exact mH | apply mT | apply mA) SRuleRules.l_asked)) ?_)
              refine heldN_of (by repeat first | exact sR | exact sN | apply sC | apply sS | apply sA) ?_
              refine all [7] (by kernel_rfl) (by decide) (.cons rfl ?_ .nil)
              refine (buildSlice (E := (ovE nilSl)) Try.underlying64 ty72 z72 (.cons (.t rfl) .nil) rfl rfl (fun v7 => ?_))
              refine heldN_of (by repeat first | exact sR | exact sN | apply sC | apply sS | apply sA) ?_
              refine all [8] (by kernel_rfl) (by decide) (.cons rfl ?_ .nil)
              refine (append (E := (ovE nilSl)) Try.underlying64 ty72 rfl zb72 zs72 (.t rfl) (.t rfl) (fun _ => by repeat first | exact Upd.head | apply Upd.tail | apply Upd.right) (by first | exact isSl_own (by repeat first | exact mH | apply mT | apply mA) | exact fun w I => IsSl.keep0 (by assumption) I.keeps) (⟨by (show _ ≤ 9223372036854775807); first | omega | (simp; done) | (simp; omega), by first | omega | (simp; done) | (simp; omega)⟩) (fun v8 => ?_))
              refine heldN_of (by repeat first | exact sR | exact sN | apply sC | apply sS | apply sA) ?_
              refine take 9 rfl (by kernel_rfl) (by kernel_rfl) (by kernel_rfl) (by repeat first | exact sR | exact sN | apply sC | apply sS | apply sA) (Ev.nilCheck (.t rfl)) ?_
              refine take 10 rfl (by kernel_rfl) (by kernel_rfl) (by kernel_rfl) (by repeat first | exact sR | exact sN | apply sC | apply sS | apply sA) (Ev.fieldAddr (o := 1) (.t rfl) (by kernel_rfl)) ?_
              refine all [11] (by kernel_rfl) (by decide) (.cons rfl ?_ .nil)
              refine (storeV ty64 SRuleRules.l_asked (.t rfl) (.t rfl) (by repeat first | exact Upd.head | apply Upd.tail | apply Upd.right) ?_)
              refine heldN_of (by repeat first | exact sR | exact sN | apply sC | apply sS | apply sA) ?_
              refine over (by kernel_rfl) ?_
              refine bN ?_
              refine pN ?_
              refine region ?_
              refine cons (opv (Ev.add_i (.t rfl) (.c (v := I 1) rfl) (fun _ => by omega)) ?_)
              refine cons (opv (Ev.move (.t rfl)) ?_)
              refine nil ?_
              refine pN ?_
              refine next (X := Int × OV × OV × (List OV) × (List Res) × (Nat → Nat)) (i + 1, _, _, os ++ [x1.1], OwnS x1.1.v (ovE nilFn) (clos (l.getD i.toNat eMatch.zero) x1.2) 97 :: Var x1.2 eMatch (l.getD i.toNat eMatch.zero) 31 :: Rs, fun q => if q = i.toNat then x1.2 else bs q) ⟨?_, ?_, ?_, ?_⟩ ?_ (by repeat first | exact Sub.nil | refine Sub.cons rfl ?_) (by dsimp only; rw [take_snoc l i hi.1 (by omega) eMatch.zero]; repeat first | exact List.Sublist.refl _ | apply List.Sublist.cons_cons | apply List.Sublist.cons)
              · try dsimp only
                omega
              · try dsimp only
                simp; omega
              · try dsimp only
                exact all_snoc l i hi.1 (by omega) hok hokm
              · try dsimp only
                intro w1 hw q hq
                by_cases e : q = i.toNat
                · subst e
                  have e1 : (os ++ [x1.1]).getD i.toNat nilSl = x1.1 := by
                    have : os.length = i.toNat := by omega
                    simp [List.getD, ← this]
                  rw [if_pos rfl]
                  show IsSl _ _ ((os ++ [x1.1]).getD i.toNat nilSl).v _ ∧ _
                  rw [e1]
                  exact ⟨IsSl.of_own (hw _ List.mem_cons_self), pts_of_block (hw _ (List.mem_cons_of_mem _ List.mem_cons_self))⟩
                · have e1 : (os ++ [x1.1]).getD q nilSl = os.getD q nilSl := by
                    have : q < os.length := by omega
                    simp [List.getD, List.getElem?_append, this]
                  rw [if_neg e]
                  show IsSl _ _ ((os ++ [x1.1]).getD q nilSl).v _ ∧ _
                  rw [e1]
                  exact hR w1 (fun r hr => hw r (List.mem_cons_of_mem _ (List.mem_cons_of_mem _ hr))) q (by omega)
              · try dsimp only
                omega
            · refine (buildSlice (E := (ovE nilSl)) Try.underlying64 ty72 z72 (.cons (.t rfl) .nil) rfl rfl (fun v9 => ?_))
              refine heldN_of (by repeat first | exact sR | exact sN | apply sC | apply sS | apply sA) ?_
              refine all [4] (by kernel_rfl) (by decide) (.cons rfl ?_ .nil)
              refine (opv (Ev.load ty64 (.t rfl) (ptsVar (by repeat first | exact mH | apply mT | apply mA) SRuleRules.l_asked)) ?_)
              refine heldN_of (by repeat first | exact sR | exact sN | apply sC | apply sS | apply sA) ?_
              refine all [8] (by kernel_rfl) (by decide) (.cons rfl ?_ .nil)
              refine (append (E := (ovE nilSl)) Try.underlying64 ty72 rfl zb72 zs72 (.t rfl) (.t rfl) (fun _ => by repeat first | exact Upd.head | apply Upd.tail | apply Upd.right) (by first | exact isSl_own (by repeat first | exact mH | apply mT | apply mA) | exact fun w I => IsSl.keep0 (by assumption) I.keeps) (⟨by (show _ ≤ 9223372036854775807); first | omega | (simp; done) | (simp; omega), by first | omega | (simp; done) | (simp; omega)⟩) (fun v10 => ?_))
              refine heldN_of (by repeat first | exact sR | exact sN | apply sC | apply sS | apply sA) ?_
              refine take 9 rfl (by kernel_rfl) (by kernel_rfl) (by kernel_rfl) (by repeat first | exact sR | exact sN | apply sC | apply sS | apply sA) (Ev.nilCheck (.t rfl)) ?_
              refine take 10 rfl (by kernel_rfl) (by kernel_rfl) (by kernel_rfl) (by repeat first | exact sR | exact sN | apply sC | apply sS | apply sA) (Ev.fieldAddr (o := 1) (.t rfl) (by kernel_rfl)) ?_
              refine all [11] (by kernel_rfl) (by decide) (.cons rfl ?_ .nil)
              refine (storeV ty64 SRuleRules.l_asked (.t rfl) (.t rfl) (by repeat first | exact Upd.head | apply Upd.tail | apply Upd.right) ?_)
              refine heldN_of (by repeat first | exact sR | exact sN | apply sC | apply sS | apply sA) ?_
              refine over (by kernel_rfl) ?_
              refine bN ?_
              refine pN ?_
              refine region ?_
              refine cons (opv (Ev.add_i (.t rfl) (.c (v := I 1) rfl) (fun _ => by omega)) ?_)
              refine cons (opv (Ev.move (.t rfl)) ?_)
              refine nil ?_
              refine pN ?_
              refine next (X := Int × OV × OV × (List OV) × (List Res) × (Nat → Nat)) (i + 1, _, _, os ++ [x1.1], OwnS x1.1.v (ovE nilFn) (clos (l.getD i.toNat eMatch.zero) x1.2) 97 :: Var x1.2 eMatch (l.getD i.toNat eMatch.zero) 31 :: Rs, fun q => if q = i.toNat then x1.2 else bs q) ⟨?_, ?_, ?_, ?_⟩ ?_ (by repeat first | exact Sub.nil | refine Sub.cons rfl ?_) (by dsimp only; rw [take_snoc l i hi.1 (by omega) eMatch.zero]; repeat first | exact List.Sublist.refl _ | apply List.Sublist.cons_cons | apply List.Sublist.cons)
              · try dsimp only
                omega
              · try dsimp only
                simp; omega
              · try dsimp only
                exact all_snoc l i hi.1 (by omega) hok hokm
              · try dsimp only
                intro w1 hw q hq
                by_cases e : q = i.toNat
                · subst e
                  have e1 : (os ++ [x1.1]).getD i.toNat nilSl = x1.1 := by
                    have : os.length = i.toNat := by omega
                    simp [List.getD, ← this]
                  rw [if_pos rfl]
                  show IsSl _ _ ((os ++ [x1.1]).getD i.toNat nilSl).v _ ∧ _
                  rw [e1]
                  exact ⟨IsSl.of_own (hw _ List.mem_cons_self), pts_of_block (hw _ (List.mem_cons_of_mem _ List.mem_cons_self))⟩
                · have e1 : (os ++ [x1.1]).getD q nilSl = os.getD q nilSl := by
                    have : q < os.length := by omega
                    simp [List.getD, List.getElem?_append, this]
                  rw [if_neg e]
                  show IsSl _ _ ((os ++ [x1.1]).getD q nilSl).v _ ∧ _
                  rw [e1]
                  exact hR w1 (fun r hr => hw r (List.mem_cons_of_mem _ (List.mem_cons_of_mem _ hr))) q (by omega)
              · try dsimp only
                omega
        · refine (buildSlice (E := eMatch) Try.underlying41 ty31 z31 (.cons (.t rfl) .nil) rfl rfl (fun v11 => ?_))
          refine heldN_of (by repeat first | exact sR | exact sN | apply sC | apply sS | apply sA) ?_
          refine all [4] (by kernel_rfl) (by decide) (.cons rfl ?_ .nil)
          refine (opv (Ev.load ty41 (.t rfl) (ptsVar (by repeat first | exact mH | apply mT | apply mA) SRuleRules.l_matches_)) ?_)
          refine heldN_of (by repeat first | exact sR | exact sN | apply sC | apply sS | apply sA) ?_
          refine all [7] (by kernel_rfl) (by decide) (.cons rfl ?_ .nil)
          refine (append (E := eMatch) Try.underlying41 ty31 rfl zb31 zs31 (.t rfl) (.t rfl) (fun _ => by repeat first | exact Upd.head | apply Upd.tail | apply Upd.right) (by first | exact isSl_own (by repeat first | exact mH | apply mT | apply mA) | exact fun w I => IsSl.keep0 (by assumption) I.keeps) (⟨by (show _ ≤ 9223372036854775807); first | omega | (simp; done) | (simp; omega), by first | omega | (simp; done) | (simp; omega)⟩) (fun v12 => ?_))
          refine heldN_of (by repeat first | exact sR | exact sN | apply sC | apply sS | apply sA) ?_
          refine take 8 rfl (by kernel_rfl) (by kernel_rfl) (by kernel_rfl) (by repeat first | exact sR | exact sN | apply sC | apply sS | apply sA) (Ev.nilCheck (.t rfl)) ?_
          refine take 9 rfl (by kernel_rfl) (by kernel_rfl) (by kernel_rfl) (by repeat first | exact sR | exact sN | apply sC | apply sS | apply sA) (Ev.fieldAddr (o := 0) (.t rfl) (by kernel_rfl)) ?_
          refine all [10] (by kernel_rfl) (by decide) (.cons rfl ?_ .nil)
          refine (storeV ty41 SRuleRules.l_matches_ (.t rfl) (.t rfl) (by repeat first | exact Upd.head | apply Upd.tail | apply Upd.right) ?_)
          refine heldN_of (by repeat first | exact sR | exact sN | apply sC | apply sS | apply sA) ?_
          refine over (by kernel_rfl) ?_
          refine pN ?_
          refine draw [Var b2 eMatch (l.getD i.toNat eMatch.zero) 31] (by kernel_rfl) ?_
          refine take 0 rfl (by kernel_rfl) (by kernel_rfl) (by kernel_rfl) (by repeat first | exact sR | exact sN | apply sC | apply sS | apply sA) (Ev.move (.t rfl)) ?_
          refine take 1 rfl (by kernel_rfl) (by kernel_rfl) (by kernel_rfl) (by repeat first | exact sR | exact sN | apply sC | apply sS | apply sA) (Ev.move (.t rfl)) ?_
          refine take 2 rfl (by kernel_rfl) (by kernel_rfl) (by kernel_rfl) (by repeat first | exact sR | exact sN | apply sC | apply sS | apply sA) (Ev.nilCheck (.t rfl)) ?_
          refine take 3 rfl (by kernel_rfl) (by kernel_rfl) (by kernel_rfl) (by repeat first | exact sR | exact sN | apply sC | apply sS | apply sA) (Ev.fieldAddr (o := 1) (.t rfl) (by kernel_rfl)) ?_
          refine take 5 rfl (by kernel_rfl) (by kernel_rfl) (by kernel_rfl) (by repeat first | exact sR | exact sN | apply sC | apply sS | apply sA) (Ev.load ty31 (.t rfl) (ptsVar (by repeat first | exact mH | apply mT | apply mA) (Lens.id _))) ?_
          refine all [4, 6] (by kernel_rfl) (by decide) (.cons rfl ?_ (.cons rfl ?_ .nil))
          · refine (opv (Ev.load ty64 (.t rfl) (ptsVar (by repeat first | exact mH | apply mT | apply mA) SRuleRules.l_asked)) ?_)
            refine heldN_of (by repeat first | exact sR | exact sN | apply sC | apply sS | apply sA) ?_
            refine all [6] (by kernel_rfl) (by decide) (.cons rfl ?_ .nil)
            refine (calln (X := OV × Nat) (fun _ => True) (fun x => x.1.v) (fun x => [OwnS x.1.v (ovE nilFn) (clos (l.getD i.toNat eMatch.zero) x.2) 97, Var x.2 eMatch (l.getD i.toNat eMatch.zero) 31]) en37 (.cons (.t rfl) .nil) (fun w I => compiled_ok _ w) (fun x1 _ => ?_))
            refine heldN_of (by repeat first | exact sR | exact sN | apply sC | apply sS | apply sA) ?_
            refine all [7] (by kernel_rfl) (by decide) (.cons rfl ?_ .nil)
            refine (buildSlice (E := (ovE nilSl)) Try.underlying64 ty72 z72 (.cons (.t rfl) .nil) rfl rfl (fun v13 => ?_))
            refine heldN_of (by repeat first | exact sR | exact sN | apply sC | apply sS | apply sA) ?_
            refine all [8] (by kernel_rfl) (by decide) (.cons rfl ?_ .nil)
            refine (append (E := (ovE nilSl)) Try.underlying64 ty72 rfl zb72 zs72 (.t rfl) (.t rfl) (fun _ => by repeat first | exact Upd.head | apply Upd.tail | apply Upd.right) (by first | exact isSl_own (by repeat first | exact mH | apply mT | apply mA) | exact fun w I => IsSl.keep0 (by assumption) I.keeps) (⟨by (show _ ≤ 9223372036854775807); first | omega | (simp; done) | (simp; omega), by first | omega | (simp; done) | (simp; omega)⟩) (fun v14 => ?_))
            refine heldN_of (by repeat first | exact sR | exact sN | apply sC | apply sS | apply sA) ?_
            refine take 9 rfl (by kernel_rfl) (by kernel_rfl) (by kernel_rfl) (by repeat first | exact sR | exact sN | apply sC | apply sS | apply sA) (Ev.nilCheck (.t rfl)) ?_
            refine take 10 rfl (by kernel_rfl) (by kernel_rfl) (by kernel_rfl) (by repeat first | exact sR | exact sN | apply sC | apply sS | apply sA) (Ev.fieldAddr (o := 1) (.t rfl) (by kernel_rfl)) ?_
            refine all [11] (by kernel_rfl) (by decide) (.cons rfl ?_ .nil)
            refine (storeV ty64 SRuleRules.l_asked (.t rfl) (.t rfl) (by repeat first | exact Upd.head | apply Upd.tail | apply Upd.right) ?_)
            refine heldN_of (by repeat first | exact sR | exact sN | apply sC | apply sS | apply sA) ?_
            refine over (by kernel_rfl) ?_
            refine bN ?_
            refine pN ?_
            refine region ?_
            refine cons (opv (Ev.add_i (.t rfl) (.c (v := I 1) rfl) (fun _ => by omega)) ?_)
            refine cons (opv (Ev.move (.t rfl)) ?_)
            refine nil ?_
            refine pN ?_
            refine next (X := Int × OV × OV × (List OV) × (List Res) × (Nat → Nat)) (i + 1, _, _, os ++ [x1.1], OwnS x1.1.v (ovE nilFn) (clos (l.getD i.toNat eMatch.zero) x1.2) 97 :: Var x1.2 eMatch (l.getD i.toNat eMatch.zero) 31 :: Rs, fun q => if q = i.toNat then x1.2 else bs q) ⟨?_, ?_, ?_, ?_⟩ ?_ (by repeat first | exact Sub.nil | refine Sub.cons rfl ?_) (by dsimp only; rw [take_snoc l i hi.1 (by omega) eMatch.zero]; repeat first | exact List.Sublist.refl _ | apply List.Sublist.cons_cons | apply List.Sublist.cons)
            · try dsimp only
              omega
            · try dsimp only
              simp; omega
            · try dsimp only
              exact all_snoc l i hi.1 (by omega) hok hokm
            · try dsimp only
              intro w1 hw q hq
              by_cases e : q = i.toNat
              · subst e
                have e1 : (os ++ [x1.1]).getD i.toNat nilSl = x1.1 := by
                  have : os.length = i.toNat := by omega
                  simp [List.getD, ← this]
                rw [if_pos rfl]
                show IsSl _ _ ((os ++ [x1.1]).getD i.toNat nilSl).v _ ∧ _
                rw [e1]
                exact ⟨IsSl.of_own (hw _ List.mem_cons_self), pts_of_block (hw _ (List.mem_cons_of_mem _ List.mem_cons_self))⟩
              · have e1 : (os ++ [x1.1]).getD q nilSl = os.getD q nilSl := by
                  have : q < os.length := by omega
                  simp [List.getD, List.getElem?_append, this]
                rw [if_neg e]
                show IsSl _ _ ((os ++ [x1.1]).getD q nilSl).v _ ∧ _
                rw [e1]
                exact hR w1 (fun r hr => hw r (List.mem_cons_of_mem _ (List.mem_cons_of_mem _ hr))) q (by omega)
            · try dsimp only
              omega
          · refine (calln (X := OV × Nat) (fun _ => True) (fun x => x.1.v) (fun x => [OwnS x.1.v (ovE nilFn) (clos (l.getD i.toNat eMatch.zero) x.2) 97, Var x.2 eMatch (l.getD i.toNat eMatch.zero) 31]) en37 (.cons (.t rfl) .nil) (fun w I => compiled_ok _ w) (fun x1 _ => ?_))
            refine heldN_of (by repeat first | exact sR | exact sN | apply sC | apply sS | apply sA) ?_
            refine all [4, 7] (by kernel_rfl) (by decide) (.cons rfl ?_ (.cons rfl ?_ .nil))
            · refine (opv (Ev.load ty64 (.t rfl) (ptsVar (by repeat first | exact mH | apply mT | apply mA) SRuleRules.l_asked)) ?_)
              refine heldN_of (by repeat first | exact sR | exact sN | apply sC | apply sS | apply sA) ?_
              refine all [7] (by kernel_rfl) (by decide) (.cons rfl ?_ .nil)
              refine (buildSlice (E := (ovE nilSl)) Try.underlying64 ty72 z72 (.cons (.t rfl) .nil) rfl rfl (fun v15 => ?_))
              refine heldN_of (by repeat first | exact sR | exact sN | apply sC | apply sS | apply sA) ?_
              refine all [8] (by kernel_rfl) (by decide) (.cons rfl ?_ .nil)
              refine (append (E := (ovE nilSl)) Try.underlying64 ty72 rfl zb72 zs72 (.t rfl) (.t rfl) (fun _ => by repeat first | exact Upd.head | apply Upd.tail | apply Upd.right) (by first | exact isSl_own (by repeat first | exact mH | apply mT | apply mA) | exact fun w I => IsSl.keep0 (by assumption) I.keeps) (⟨by (show _ ≤ 9223372036854775807); first | omega | (simp; done) | (simp; omega), by first | omega | (simp; done) | (simp; omega)⟩) (fun v16 => ?_))
              refine heldN_of (by repeat first | exact sR | exact sN | apply sC | apply sS | apply sA) ?_
              refine take 9 rfl (by kernel_rfl) (by kernel_rfl) (by kernel_rfl) (by repeat first | exact sR | exact sN | apply sC | apply sS | apply sA) (Ev.nilCheck (.t rfl)) ?_
              refine take 10 rfl (by kernel_rfl) (by kernel_rfl) (by kernel_rfl) (by repeat first | exact sR | exact sN | apply sC | apply sS | apply sA) (Ev.fieldAddr (o := 1) (.t rfl) (by kernel_rfl)) ?_
              refine all [11] (by kernel_rfl) (by decide) (.cons rfl ?_ .nil)
              refine (storeV ty64 SRuleRules.l_asked (.t rfl) (.t rfl) (by repeat first | exact Upd.head | apply Upd.tail | apply Upd.right) ?_)
              refine heldN_of (by repeat first | exact sR | exact sN | apply sC | apply sS | apply sA) ?_
              refine over (by kernel_rfl) ?_
              refine bN ?_
              refine pN ?_
              refine region ?_
              refine cons (opv (Ev.add_i (.t rfl) (.c (v := I 1) rfl) (fun _ => by omega)) ?_)
              refine cons (opv (Ev.move (.t rfl)) ?_)
              refine nil ?_
              refine pN ?_
              refine next (X := Int × OV × OV × (List OV) × (List Res) × (Nat → Nat)) (i + 1, _, _, os ++ [x1.1], OwnS x1.1.v (ovE nilFn) (clos (l.getD i.toNat eMatch.zero) x1.2) 97 :: Var x1.2 eMatch (l.getD i.toNat eMatch.zero) 31 :: Rs, fun q => if q = i.toNat then x1.2 else bs q) ⟨?_, ?_, ?_, ?_⟩ ?_ (by repeat first | exact Sub.nil | refine Sub.cons rfl ?_) (by dsimp only; rw [take_snoc l i hi.1 (by omega) eMatch.zero]; repeat first | exact List.Sublist.refl _ | apply List.Sublist.cons_cons | apply List.Sublist.cons)
              · try dsimp only
                omega
              · try dsimp only
                simp; omega
              · try dsimp only
                exact all_snoc l i hi.1 (by omega) hok hokm
              · try dsimp only
                intro w1 hw q hq
                by_cases e : q = i.toNat
                · subst e
                  have e1 : (os ++ [x1.1]).getD i.toNat nilSl = x1.1 := by
                    have : os.length = i.toNat := by omega
                    simp [List.getD, ← this]
                  rw [if_pos rfl]
                  show IsSl _ _ ((os ++ [x1.1]).getD i.toNat nilSl).v _ ∧ _
                  rw [e1]
                  exact ⟨IsSl.of_own (hw _ List.mem_cons_self), pts_of_block (hw _ (List.mem_cons_of_mem _ List.mem_cons_self))⟩
                · have e1 : (os ++ [x1.1]).getD q nilSl = os.getD q nilSl := by
                    have : q < os.length := by omega
                    simp [List.getD, List.getElem?_append, this]
                  rw [if_neg e]
                  show IsSl _ _ ((os ++ [x1.1]).getD q nilSl).v _ ∧ _
                  rw [e1]
                  exact hR w1 (fun r hr => hw r (List.mem_cons_of_mem _ (List.mem_cons_of_mem _ hr))) q (by omega)
              · try dsimp only
                omega
            · refine (buildSlice (E := (ovE nilSl)) Try.underlying64 ty72 z72 (.cons (.t rfl) .nil) rfl rfl (fun v17 => ?_))
              refine heldN_of (by repeat first | exact sR | exact sN | apply sC | apply sS | apply sA) ?_
              refine all [4] (by kernel_rfl) (by decide) (.cons rfl ?_ .nil)
              refine (opv (Ev.load ty64 (.t rfl) (ptsVar (by repeat first | exact mH | apply mT | apply mA) SRuleRules.l_asked)) ?_)
              refine heldN_of (by repeat first | exact sR | exact sN | apply sC | apply sS | apply sA) ?_
              refine all [8] (by kernel_rfl) (by decide) (.cons rfl ?_ .nil)
              refine (append (E := (ovE nilSl)) Try.underlying64 ty72 rfl zb72 zs72 (.t rfl) (.t rfl) (fun _ => by repeat first | exact Upd.head | apply Upd.tail | apply Upd.right) (by first | exact isSl_own (by repeat first | exact mH | apply mT | apply mA) | exact fun w I => IsSl.keep0 (by assumption) I.keeps) (⟨by (show _ ≤ 9223372036854775807); first | omega | (simp; done) | (simp; omega), by first | omega | (simp; done) | (simp; omega)⟩) (fun v18 => ?_))
              refine heldN_of (by repeat first | exact sR | exact sN | apply sC | apply sS | apply sA) ?_
              refine take 9 rfl (by kernel_rfl) (by kernel_rfl) (by kernel_rfl) (by repeat first | exact sR | exact sN | apply sC | apply sS | apply sA) (Ev.nilCheck (.t rfl)) ?_
              refine take 10 rfl (by kernel_rfl) (by kernel_rfl) (by kernel_rfl) (by repeat first | exact sR | exact sN | apply sC | apply sS | apply sA) (Ev.fieldAddr (o := 1) (.t rfl) (by kernel_rfl)) ?_
              refine all [11] (by kernel_rfl) (by decide) (.cons rfl ?_ .nil)
              refine (storeV ty64 SRuleRules.l_asked (.t rfl) (.t rfl) (by repeat first | exact Upd.head | apply Upd.tail | apply Upd.right) ?_)
              refine heldN_of (by repeat first | exact sR | exact sN | apply sC | apply sS | apply sA) ?_
              refine over (by kernel_rfl) ?_
              refine bN ?_
              refine pN ?_
              refine region ?_
              refine cons (opv (Ev.add_i (.t rfl) (.c (v := I 1) rfl) (fun _ => by omega)) ?_)
              refine cons (opv (Ev.move (.t rfl)) ?_)
              refine nil ?_
              refine pN ?_
              refine next (X := Int × OV × OV × (List OV) × (List Res) × (Nat → Nat)) (i + 1, _, _, os ++ [x1.1], OwnS x1.1.v (ovE nilFn) (clos (l.getD i.toNat eMatch.zero) x1.2) 97 :: Var x1.2 eMatch (l.getD i.toNat eMatch.zero) 31 :: Rs, fun q => if q = i.toNat then x1.2 else bs q) ⟨?_, ?_, ?_, ?_⟩ ?_ (by repeat first | exact Sub.nil | refine Sub.cons rfl ?_) (by dsimp only; rw [take_snoc l i hi.1 (by omega) eMatch.zero]; repeat first | exact List.Sublist.refl _ | apply List.Sublist.cons_cons | apply List.Sublist.cons)
              · try dsimp only
                omega
              · try dsimp only
                simp; omega
              · try dsimp only
                exact all_snoc l i hi.1 (by omega) hok hokm
              · try dsimp only
                intro w1 hw q hq
                by_cases e : q = i.toNat
                · subst e
                  have e1 : (os ++ [x1.1]).getD i.toNat nilSl = x1.1 := by
                    have : os.length = i.toNat := by omega
                    simp [List.getD, ← this]
                  rw [if_pos rfl]
                  show IsSl _ _ ((os ++ [x1.1]).getD i.toNat nilSl).v _ ∧ _
                  rw [e1]
                  exact ⟨IsSl.of_own (hw _ List.mem_cons_self), pts_of_block (hw _ (List.mem_cons_of_mem _ List.mem_cons_self))⟩
                · have e1 : (os ++ [x1.1]).getD q nilSl = os.getD q nilSl := by
                    have : q < os.length := by omega
                    simp [List.getD, List.getElem?_append, this]
                  rw [if_neg e]
                  show IsSl _ _ ((os ++ [x1.1]).getD q nilSl).v _ ∧ _
                  rw [e1]
                  exact hR w1 (fun r hr => hw r (List.mem_cons_of_mem _ (List.mem_cons_of_mem _ hr))) q (by omega)
              · try dsimp only
                omega
    · try simp only [Bool.and_eq_true, Bool.or_eq_true, Bool.or_eq_false_iff, Bool.and_eq_false_iff, Bool.not_eq_true', Bool.not_eq_false', decide_eq_true_eq, decide_eq_false_iff_not, Decidable.not_not] at hge
      refine exit ?_
      refine pX ?_
      refine pX ?_
      refine bX ?_
      refine pN ?_
      refine seq ?_
      refine region ?_
      refine cons (opv (Ev.move (.t rfl)) ?_)
      refine cons (opv (Ev.assign (.t rfl)) ?_)
      refine cons (opv (Ev.assign (.c (v := I 0) rfl)) ?_)
      refine nil ?_
      refine pN ?_
      refine ret ?_
      refine done rfl (.tmp rfl (.tmp rfl .nil)) (fun w I => ?_)
      have et : l.take i.toNat = l := List.take_of_length_le (by omega)
      rw [et] at hok I
      have hc : compE l = 0 := by unfold compE; rw [decide_eq_false (by omega), hok]; rfl
      refine retN (b1, Rs ++ [OwnS mo.v eMatch l 31, OwnS ao.v (ovE nilSl) os 72, Var b1 eRuleRules ⟨mo, ao⟩ 66]) (fun _ w1 hw => ?_) (by unfold compV ptrC ptrO; rw [hc]; rfl) (List.Sublist.refl _) w I
      refine ⟨mo, ao, os, bs, pts_of_block (hw _ (List.mem_append_right _ (List.mem_cons_of_mem _ (List.mem_cons_of_mem _ List.mem_cons_self)))), IsSl.of_own (hw _ (List.mem_append_right _ List.mem_cons_self)), IsSl.of_own (hw _ (List.mem_append_right _ (List.mem_cons_of_mem _ List.mem_cons_self))), by omega, fun q hq => hR w1 (fun r hr => hw r (List.mem_append_left _ hr)) q (by omega)⟩

/-- The first one that is met. -/
def firstF (q : SMatch → Bool) : List SMatch → Int → Int
  | [], _ => -1
  | m :: l, k => bif q m then k else firstF q l (k + 1)
theorem firstF_step (q : SMatch → Bool) (l : List SMatch) (i : Nat) (k : Int) (h : i < l.length) : firstF q (l.drop i) k = bif q (l.getD i eMatch.zero) then k else firstF q (l.drop (i + 1)) (k + 1) := by
  rw [List.drop_eq_getElem_cons h]
  simp [firstF, List.getD, h]

theorem len_ok (b : Nat) (l : List SMatch) (w : World) (hR : RulesAt w b l) : Calls Try.prog 24 #[.pointer (some ⟨b, 0, none⟩)] w (RetV w (I l.length)) := by
  obtain ⟨mo, ao, os, bs, hr, hmo, hao, hol, hcl⟩ := hR
  have hml := hmo.le
  have hal := hao.le
  refine enter0 10 Try.func24 rfl rfl (Nat.le_of_ble_eq_true rfl) ?_
  refine seq ?_
  refine region ?_
  refine cons (opv (Ev.assign (.c (v := I 0) rfl)) ?_)
  refine nil ?_
  refine pN ?_
  refine seq ?_
  refine seq ?_
  refine region ?_
  refine cons (opv (Ev.move (.t rfl)) ?_)
  refine cons (opv (Ev.eql_p Try.underlying43 (.t rfl) (.c rfl)) ?_)
  refine nil ?_
  refine pN ?_
  refine condF rfl (rfl) ?_
  refine skip ?_
  refine pN ?_
  refine seq ?_
  refine region ?_
  refine cons (opv (Ev.move (.t rfl)) ?_)
  refine cons (opv (Ev.nilCheck (.t rfl)) ?_)
  refine cons (opv (Ev.fieldAddr (o := 0) (.t rfl) (by kernel_rfl)) ?_)
  refine cons (opv (Ev.load ty41 (.t rfl) (ptsL (fun w I => hr.keep I.keeps) SRuleRules.l_matches_)) ?_)
  refine cons (opv (Ev.len Try.underlying41 (.t rfl) (fun w I => hmo.keep0 I.keeps)) ?_)
  refine cons (opv (Ev.assign (.t rfl)) ?_)
  refine nil ?_
  refine pN ?_
  refine ret ?_
  refine done rfl (.tmp rfl .nil) (retE ?_)
  rfl

theorem len0_ok (w : World) : Calls Try.prog 24 #[.pointer none] w (RetV w (I 0)) := by
  refine enter0 10 Try.func24 rfl rfl (Nat.le_of_ble_eq_true rfl) ?_
  refine seq ?_
  refine region ?_
  refine cons (opv (Ev.assign (.c (v := I 0) rfl)) ?_)
  refine nil ?_
  refine pN ?_
  refine seq ?_
  refine seq ?_
  refine region ?_
  refine cons (opv (Ev.move (.t rfl)) ?_)
  refine cons (opv (Ev.eql_p Try.underlying43 (.t rfl) (.c rfl)) ?_)
  refine nil ?_
  refine pN ?_
  refine condT rfl (rfl) ?_
  refine seq ?_
  refine region ?_
  refine cons (opv (Ev.assign (.c (v := I 0) rfl)) ?_)
  refine nil ?_
  refine pN ?_
  refine ret ?_
  refine pR ?_
  refine done rfl (.tmp rfl .nil) (retE ?_)
  rfl

theorem first_ok (b : Nat) (l : List SMatch) (n : Int) (h : SHeader) (w : World) (hR : RulesAt w b l) : Calls Try.prog 18 #[.pointer (some ⟨b, 0, none⟩), I n, eHeader.val h] w (RetV w (I (firstF (fun m => metB m n h) l 0))) := by
  obtain ⟨mo, ao, os, bs, hr, hmo, hao, hol, hcl⟩ := hR
  have hml := hmo.le
  have hal := hao.le
  refine enter0 26 Try.func18 rfl rfl (Nat.le_of_ble_eq_true rfl) ?_
  refine seq ?_
  refine region ?_
  refine cons (box (E := eHeader) (.t rfl) (fun b1 => ?_))
  refine cons (opv (Ev.assign (.c (v := I 0) rfl)) ?_)
  refine nil ?_
  refine pN ?_
  refine seq ?_
  refine seq ?_
  refine region ?_
  refine cons (opv (Ev.move (.t rfl)) ?_)
  refine cons (opv (Ev.eql_p Try.underlying43 (.t rfl) (.c rfl)) ?_)
  refine nil ?_
  refine pN ?_
  refine condF rfl (rfl) ?_
  refine skip ?_
  refine pN ?_
  refine seq ?_
  refine seq ?_
  refine region ?_
  refine cons (opv (Ev.move (.t rfl)) ?_)
  refine cons (opv (Ev.nilCheck (.t rfl)) ?_)
  refine cons (opv (Ev.fieldAddr (o := 1) (.t rfl) (by kernel_rfl)) ?_)
  refine cons (opv (Ev.load ty64 (.t rfl) (ptsL (fun w I => hr.keep I.keeps) SRuleRules.l_asked)) ?_)
  refine cons (opv (Ev.len Try.underlying64 (.t rfl) (fun w I => hao.keep0 I.keeps)) ?_)
  refine cons (opv (Ev.move (.c (v := I 0) rfl)) ?_)
  refine nil ?_
  refine pN ?_
  refine block ?_
  refine loop (X := Int) (fun x : Int => (0 ≤ x ∧ x ≤ l.length) ∧ (firstF (fun m => metB m n h) (l.drop x.toNat) x = firstF (fun m => metB m n h) l 0)) (fun x : Int => [(1, true, I n), (5, true, .pointer (some ⟨b1, 0, none⟩)), (14, true, ao.v), (15, true, I os.length), (16, true, I x)]) (fun x : Int => [Var b1 eHeader h 35]) (fun x : Int => (l.length - x).toNat) (0) ⟨?_, ?_⟩ (by repeat first | exact Sub.nil | refine Sub.cons rfl ?_) (by repeat first | exact sR | exact sN | apply sC | apply sS | apply sA) (fun x hx => ?_)
  · omega
  · rfl
  obtain ⟨i, rfl⟩ : ∃ y, y = x := ⟨x, rfl⟩
  obtain ⟨hi, hf⟩ : (0 ≤ i ∧ i ≤ l.length) ∧ (firstF (fun m => metB m n h) (l.drop i.toNat) i = firstF (fun m => metB m n h) l 0) := hx
  show Sat _ _ [(1, true, I n), (5, true, .pointer (some ⟨b1, 0, none⟩)), (14, true, ao.v), (15, true, I os.length), (16, true, I i)] [Var b1 eHeader h 35]
  refine seq ?_
  refine region ?_
  refine cons (opv (Ev.lss_i (.t rfl) (.t rfl)) ?_)
  refine nil ?_
  refine pN ?_
  refine seq ?_
  first | refine condD rfl (fun hlt => ?_) (fun hge => ?_) | refine cond rfl (fun hlt => ?_) (fun hge => ?_)
  · try simp only [Bool.and_eq_true, Bool.or_eq_true, Bool.or_eq_false_iff, Bool.and_eq_false_iff, Bool.not_eq_true', Bool.not_eq_false', decide_eq_true_eq, decide_eq_false_iff_not, Decidable.not_not] at hlt
    refine skip ?_
    refine pN ?_
    refine seq ?_
    refine block ?_
    refine seq ?_
    refine region ?_
    refine cons (opv (Ev.move (.t rfl)) ?_)
    refine cons (opv (Ev.indexAddr Try.underlying64 ty72 (.t rfl) (.t rfl) (fun w I => hao.keep0 I.keeps) (fun _ => by omega)) ?_)
    refine cons (opv (Ev.loadS0 ty72 (.t rfl) (fun w I => hao.keep0 I.keeps) (fun _ => by omega)) ?_)
    refine cons (opv (Ev.assign (.t rfl)) ?_)
    refine cons (opv (Ev.assign (.t rfl)) ?_)
    refine nil ?_
    refine pN ?_
    refine seq ?_
    refine region ?_
    have hck := hcl i.toNat (by omega)
    refine cons (opv (Ev.move (.t rfl)) ?_)
    refine cons (opv (Ev.move (.t rfl)) ?_)
    refine cons (callv en36 (.cons (.t rfl) (.cons (.t rfl) (.cons (.t rfl) .nil))) (fun w I => meetsL_ok _ _ n h _ _ w (hck.1.keep0 I.keeps) (hck.2.keep I.keeps) (ptsVar (by repeat first | exact mH | apply mT | apply mA) (Lens.id _) w I)) ?_)
    refine nil ?_
    refine pN ?_
    first | refine condD rfl (fun h2 => ?_) (fun h2 => ?_) | refine cond rfl (fun h2 => ?_) (fun h2 => ?_)
    · refine seq ?_
      refine region ?_
      refine cons (opv (Ev.move (.t rfl)) ?_)
      refine cons (opv (Ev.assign (.t rfl)) ?_)
      refine nil ?_
      refine pN ?_
      refine ret ?_
      refine bR ?_
      refine pR ?_
      refine pR ?_
      refine bR ?_
      refine pR ?_
      refine done rfl (.tmp rfl .nil) (retE ?_)
      rw [← hf, firstF_step _ l i.toNat i (by omega)]
      have h3 : metB (l.getD i.toNat eMatch.zero) n h = true := by simpa using h2
      rw [h3]; rfl
    · refine skip ?_
      refine bN ?_
      refine pN ?_
      refine region ?_
      refine cons (opv (Ev.add_i (.t rfl) (.c (v := I 1) rfl) (fun _ => by omega)) ?_)
      refine cons (opv (Ev.move (.t rfl)) ?_)
      refine nil ?_
      refine pN ?_
      refine next (X := Int) (i + 1) ⟨?_, ?_⟩ ?_ (by repeat first | exact Sub.nil | refine Sub.cons rfl ?_) (by repeat first | exact sR | exact sN | apply sC | apply sS | apply sA)
      · try dsimp only
        omega
      · try dsimp only
        rw [← hf, firstF_step _ l i.toNat i (by omega)]
        have e : (i + 1).toNat = i.toNat + 1 := by omega
        rw [e]
        have h3 : metB (l.getD i.toNat eMatch.zero) n h = false := by simpa using h2
        rw [h3]; rfl
      · try dsimp only
        omega
  · try simp only [Bool.and_eq_true, Bool.or_eq_true, Bool.or_eq_false_iff, Bool.and_eq_false_iff, Bool.not_eq_true', Bool.not_eq_false', decide_eq_true_eq, decide_eq_false_iff_not, Decidable.not_not] at hge
    refine exit ?_
    refine pX ?_
    refine pX ?_
    refine bX ?_
    refine pN ?_
    refine seq ?_
    refine region ?_
    refine cons (opv (Ev.assign (.c (v := I (-1)) rfl)) ?_)
    refine nil ?_
    refine pN ?_
    refine ret ?_
    refine done rfl (.tmp rfl .nil) (retE ?_)
    rw [List.drop_eq_nil_of_le (by omega)] at hf
    rw [← hf]; rfl

theorem first0_ok (n : Int) (h : SHeader) (w : World) : Calls Try.prog 18 #[.pointer none, I n, eHeader.val h] w (RetV w (I (-1))) := by
  refine enter0 26 Try.func18 rfl rfl (Nat.le_of_ble_eq_true rfl) ?_
  refine seq ?_
  refine region ?_
  refine cons (box (E := eHeader) (.t rfl) (fun b1 => ?_))
  refine cons (opv (Ev.assign (.c (v := I 0) rfl)) ?_)
  refine nil ?_
  refine pN ?_
  refine seq ?_
  refine seq ?_
  refine region ?_
  refine cons (opv (Ev.move (.t rfl)) ?_)
  refine cons (opv (Ev.eql_p Try.underlying43 (.t rfl) (.c rfl)) ?_)
  refine nil ?_
  refine pN ?_
  refine condT rfl (rfl) ?_
  refine seq ?_
  refine region ?_
  refine cons (opv (Ev.assign (.c (v := I (-1)) rfl)) ?_)
  refine nil ?_
  refine pN ?_
  refine ret ?_
  refine pR ?_
  refine done rfl (.tmp rfl .nil) (retE ?_)
  rfl
end Go.Proofs.Ytkmdhmfgbgngeaa
