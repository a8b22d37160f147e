/- packet -/
import Derived.Test.YtegcihhhighipaaP25
import Derived.Test.YtegcihhhighipaaGxN
set_option linter.unusedVariables false
set_option linter.unusedSimpArgs false
namespace Go.Proofs.Ytegcihhhighipaa
open Go Go.Gx

structure SLaw16Turn where
  at_ : Int
  to_ : UInt8
  cut : Int
  more : OV
  sums : Bool

def SLaw16Turn.to : (Int × (UInt8 × (Int × (OV × Bool)))) → SLaw16Turn := fun x => ⟨x.1, x.2.1, x.2.2.1, x.2.2.2.1, x.2.2.2.2⟩

def SLaw16Turn.of : SLaw16Turn → (Int × (UInt8 × (Int × (OV × Bool)))) := fun x => (x.at_, x.to_, x.cut, x.more, x.sums)

def eLaw16Turn : Enc SLaw16Turn := isoE (prodE iE (prodE u8E (prodE iE (prodE (ovE nilSl) bE)))) SLaw16Turn.to SLaw16Turn.of

def SLaw16Turn.l_at_ : Lens eLaw16Turn iE 0 := lIso _ SLaw16Turn.to SLaw16Turn.of (fun _ => rfl) (lFst iE (prodE u8E (prodE iE (prodE (ovE nilSl) bE))))

@[simp] theorem SLaw16Turn.get_at_ (x : SLaw16Turn) : SLaw16Turn.l_at_.get x = x.at_ := rfl

@[simp] theorem SLaw16Turn.set_at_ (x : SLaw16Turn) (y : Int) : SLaw16Turn.l_at_.set x y = { x with at_ := y } := rfl

def SLaw16Turn.l_to_ : Lens eLaw16Turn u8E 1 := lIso _ SLaw16Turn.to SLaw16Turn.of (fun _ => rfl) (Lens.comp (lSnd iE (prodE u8E (prodE iE (prodE (ovE nilSl) bE)))) (lFst u8E (prodE iE (prodE (ovE nilSl) bE))))

@[simp] theorem SLaw16Turn.get_to_ (x : SLaw16Turn) : SLaw16Turn.l_to_.get x = x.to_ := rfl

@[simp] theorem SLaw16Turn.set_to_ (x : SLaw16Turn) (y : UInt8) : SLaw16Turn.l_to_.set x y = { x with to_ := y } := rfl

def SLaw16Turn.l_cut : Lens eLaw16Turn iE 2 := lIso _ SLaw16Turn.to SLaw16Turn.of (fun _ => rfl) (Lens.comp (lSnd iE (prodE u8E (prodE iE (prodE (ovE nilSl) bE)))) (Lens.comp (lSnd u8E (prodE iE (prodE (ovE nilSl) bE))) (lFst iE (prodE (ovE nilSl) bE))))

@[simp] theorem SLaw16Turn.get_cut (x : SLaw16Turn) : SLaw16Turn.l_cut.get x = x.cut := rfl

@[simp] theorem SLaw16Turn.set_cut (x : SLaw16Turn) (y : Int) : SLaw16Turn.l_cut.set x y = { x with cut := y } := rfl

def SLaw16Turn.l_more : Lens eLaw16Turn (ovE nilSl) 3 := lIso _ SLaw16Turn.to SLaw16Turn.of (fun _ => rfl) (Lens.comp (lSnd iE (prodE u8E (prodE iE (prodE (ovE nilSl) bE)))) (Lens.comp (lSnd u8E (prodE iE (prodE (ovE nilSl) bE))) (Lens.comp (lSnd iE (prodE (ovE nilSl) bE)) (lFst (ovE nilSl) bE))))

@[simp] theorem SLaw16Turn.get_more (x : SLaw16Turn) : SLaw16Turn.l_more.get x = x.more := rfl

@[simp] theorem SLaw16Turn.set_more (x : SLaw16Turn) (y : OV) : SLaw16Turn.l_more.set x y = { x with more := y } := rfl

def SLaw16Turn.l_sums : Lens eLaw16Turn bE 4 := lIso _ SLaw16Turn.to SLaw16Turn.of (fun _ => rfl) (Lens.comp (lSnd iE (prodE u8E (prodE iE (prodE (ovE nilSl) bE)))) (Lens.comp (lSnd u8E (prodE iE (prodE (ovE nilSl) bE))) (Lens.comp (lSnd iE (prodE (ovE nilSl) bE)) (Lens.comp (lSnd (ovE nilSl) bE) (Lens.id bE)))))

@[simp] theorem SLaw16Turn.get_sums (x : SLaw16Turn) : SLaw16Turn.l_sums.get x = x.sums := rfl

@[simp] theorem SLaw16Turn.set_sums (x : SLaw16Turn) (y : Bool) : SLaw16Turn.l_sums.set x y = { x with sums := y } := rfl

theorem fit256 {x : Nat} (h : x < 2 ^ 8) : Fit ((x : Int) * 2 ^ Int.toNat 8) := by
  have e : (2 : Int) ^ Int.toNat 8 = 256 := by decide
  rw [e]
  unfold Fit
  omega
theorem tmod_bounds (a : Int) (n : Int) (h : 0 < n) : -n < a.tmod n ∧ a.tmod n < n := ⟨Int.lt_tmod_of_pos a h, Int.tmod_lt_of_pos a h⟩

theorem ty50 : TyOK Try.prog 50 eLaw16Turn := TyOK.mk' (by kernel_rfl) (by kernel_rfl)

theorem z50 : (Try.prog.info? 50).bind (·.zero) = some (eLaw16Turn.val eLaw16Turn.zero) := by kernel_rfl

theorem ty3 : TyOK Try.prog 3 iE := TyOK.mk' (by kernel_rfl) (by kernel_rfl)

theorem turned_ok (u v : Value) (b : List UInt8) (ts : List SLaw16Turn) (w : World) (hb : IsSl u8E w u b) (ht : IsSl eLaw16Turn w v ts) (hm : ∀ i, i < ts.length → ∃ m, IsSl u8E w (ts.getD i eLaw16Turn.zero).more.v m) (hl : b.length ≤ 4096) : Calls Try.prog 25 #[u, v] w (RetN w (fun x : OV × List UInt8 => x.2.length ≤ b.length + 240) (fun x => x.1.v) (fun x => [OwnS x.1.v u8E x.2 5])) := by
  have hbl := hb.le
  have htl := ht.le
  refine enter0 72 Try.func25 rfl rfl (Nat.le_of_ble_eq_true rfl) ?_
  refine seq ?_
  refine region ?_
  refine cons (opv (Ev.assign (.c (v := (Go.Value.slice none 0 0)) rfl)) ?_)
  refine nil ?_
  refine pN ?_
  refine seq ?_
  refine region ?_
  refine cons (opv (Ev.assign (.c (v := (Go.Value.slice none 0 0)) rfl)) ?_)
  refine takeNil u8E 5 ?_
  refine nil ?_
  refine pN ?_
  refine seq ?_
  refine region ?_
  refine cons (opv (Ev.move (.t rfl)) ?_)
  refine cons (opv (Ev.move (.t rfl)) ?_)
  refine cons (append (E := u8E) Try.underlying27 ty5 rfl zb5 zs5 (.t rfl) (.t rfl) (fun _ => by repeat first | exact Upd.head | apply Upd.tail | apply Upd.right) (by first | exact isSl_own (by repeat first | exact mH | apply mT | apply mA) | exact fun w I => IsSl.keep0 (by assumption) I.keeps) (⟨by (show _ ≤ 9223372036854775807); first | omega | (simp; done) | (simp; omega), by first | omega | (simp; done) | (simp; omega)⟩) (fun v1 => ?_))
  refine cons (opv (Ev.assign (.t rfl)) ?_)
  refine nil ?_
  refine pN ?_
  refine seq ?_
  refine seq ?_
  refine region ?_
  refine cons (opv (Ev.assign (.c (v := I 0) rfl)) ?_)
  refine nil ?_
  refine pN ?_
  refine block ?_
  refine loop (X := Int × OV × (List UInt8)) (fun x : Int × OV × (List UInt8) => (0 ≤ x.1 ∧ x.1 ≤ ts.length ∧ x.1 ≤ 6) ∧ ((x.2.2.length : Int) ≤ b.length + 40 * x.1)) (fun x : Int × OV × (List UInt8) => [(1, true, v), (5, true, x.2.1.v), (6, true, I x.1)]) (fun x : Int × OV × (List UInt8) => [OwnS x.2.1.v u8E x.2.2 5]) (fun x : Int × OV × (List UInt8) => (ts.length - x.1).toNat) (0, _, _) ⟨?_, ?_⟩ (by repeat first | exact Sub.nil | refine Sub.cons rfl ?_) (by repeat first | exact sR | exact sN | apply sC | apply sS | apply sA) (fun x hx => ?_)
  · omega
  · simp
  obtain ⟨i, o, xs⟩ := x
  obtain ⟨hi, hxl⟩ : (0 ≤ i ∧ i ≤ ts.length ∧ i ≤ 6) ∧ ((xs.length : Int) ≤ b.length + 40 * i) := hx
  show Sat _ _ [(1, true, v), (5, true, o.v), (6, true, I i)] [OwnS o.v u8E xs 5]
  refine seq ?_
  refine seq ?_
  refine region ?_
  refine cons (opv (Ev.move (.t rfl)) ?_)
  refine cons (opv (Ev.move (.t rfl)) ?_)
  refine cons (opv (Ev.len Try.underlying47 (.t rfl) (by first | exact isSl_own (by repeat first | exact mH | apply mT | apply mA) | exact fun w I => IsSl.keep0 (by assumption) I.keeps)) ?_)
  refine cons (opv (Ev.lss_i (.t rfl) (.t rfl)) ?_)
  refine cons (opv (Ev.move (.t rfl)) ?_)
  refine cons (opg rfl rfl (Ev.move (.t rfl)) ?_)
  refine cons (opg rfl rfl (Ev.lss_i (.g rfl id) (.c (v := I 6) rfl)) ?_)
  refine cons (opv (Ev.pickA (.t rfl) (fun {_} h => by cases h; rfl) ⟨_, rfl⟩ (by intro h1 h; first | (rw [h] <;> rfl) | (rw [h1, h] <;> rfl) | (rw [h, h1] <;> rfl) | simp_all) (.c (v := .bool false) rfl)) ?_)
  refine nil ?_
  refine pN ?_
  first | refine condD rfl (fun h0 => ?_) (fun h0 => ?_) | refine cond rfl (fun h0 => ?_) (fun h0 => ?_)
  · try simp only [Bool.and_eq_true, Bool.or_eq_true, Bool.or_eq_false_iff, Bool.and_eq_false_iff, Bool.not_eq_true', Bool.not_eq_false', decide_eq_true_eq, decide_eq_false_iff_not, Decidable.not_not] at h0
    have hgo : i < ts.length ∧ i < 6 := h0
    refine skip ?_
    refine pN ?_
    refine seq ?_
    refine block ?_
    refine seq ?_
    refine region ?_
    obtain ⟨m, hm1⟩ := hm i.toNat (by omega)
    refine cons (opv (Ev.move (.t rfl)) ?_)
    refine cons (opv (Ev.move (.t rfl)) ?_)
    refine cons (opv (Ev.indexAddr Try.underlying47 ty50 (.t rfl) (.t rfl) (by first | exact isSl_own (by repeat first | exact mH | apply mT | apply mA) | exact fun w I => IsSl.keep0 (by assumption) I.keeps) (fun _ => by omega)) ?_)
    refine cons (opv (Ev.loadS0 ty50 (.t rfl) (by first | exact isSl_own (by repeat first | exact mH | apply mT | apply mA) | exact fun w I => IsSl.keep0 (by assumption) I.keeps) (fun _ => by omega)) ?_)
    refine cons (alloc z50 (fun b2 => ?_))
    refine cons (storeV ty50 (Lens.id _) (.t rfl) (.t rfl) (by repeat first | exact Upd.head | apply Upd.tail | apply Upd.right) ?_)
    refine nil ?_
    refine pN ?_
    refine cut (X := (List UInt8)) (fun x : (List UInt8) => (x.length = xs.length)) (fun x : (List UInt8) => [(1, true, v), (5, true, o.v), (6, true, I i), (7, true, .pointer (some ⟨b2, 0, none⟩))]) (fun x : (List UInt8) => [Var b2 eLaw16Turn (ts.getD i.toNat eLaw16Turn.zero) 50, OwnS o.v u8E x 5]) ?_ (fun x hx => ?_)
    · refine seq ?_
      refine region ?_
      refine cons (opv (Ev.move (.t rfl)) ?_)
      refine cons (opv (Ev.len Try.underlying27 (.t rfl) (by first | exact isSl_own (by repeat first | exact mH | apply mT | apply mA) | exact fun w I => IsSl.keep0 (by assumption) I.keeps)) ?_)
      refine cons (opv (Ev.gtr_i (.t rfl) (.c (v := I 0) rfl)) ?_)
      refine nil ?_
      refine pN ?_
      first | refine condD rfl (fun h1 => ?_) (fun h1 => ?_) | refine cond rfl (fun h1 => ?_) (fun h1 => ?_)
      · try simp only [Bool.and_eq_true, Bool.or_eq_true, Bool.or_eq_false_iff, Bool.and_eq_false_iff, Bool.not_eq_true', Bool.not_eq_false', decide_eq_true_eq, decide_eq_false_iff_not, Decidable.not_not] at h1
        have htm := tmod_bounds (SLaw16Turn.l_at_.get ((Lens.id eLaw16Turn).set eLaw16Turn.zero (ts.getD i.toNat eLaw16Turn.zero))) xs.length (by omega)
        refine seq ?_
        refine region ?_
        refine cons (opv (Ev.fieldAddr (o := 0) (.t rfl) (by kernel_rfl)) ?_)
        refine cons (opv (Ev.load ty3 (.t rfl) (ptsVar (by repeat first | exact mH | apply mT | apply mA) SLaw16Turn.l_at_)) ?_)
        refine cons (opv (Ev.move (.t rfl)) ?_)
        refine cons (opv (Ev.len Try.underlying27 (.t rfl) (by first | exact isSl_own (by repeat first | exact mH | apply mT | apply mA) | exact fun w I => IsSl.keep0 (by assumption) I.keeps)) ?_)
        refine cons (opv (Ev.rem_i (.t rfl) (.t rfl) (fun _ => by omega)) ?_)
        refine cons (opv (Ev.assign (.t rfl)) ?_)
        refine nil ?_
        refine pN ?_
        refine cut (X := Int) (fun x : Int => (0 ≤ x ∧ x < xs.length)) (fun x : Int => [(1, true, v), (5, true, o.v), (6, true, I i), (7, true, .pointer (some ⟨b2, 0, none⟩)), (8, true, I x)]) (fun x : Int => [Var b2 eLaw16Turn (ts.getD i.toNat eLaw16Turn.zero) 50, OwnS o.v u8E xs 5]) ?_ (fun x hx => ?_)
        · refine seq ?_
          refine region ?_
          refine cons (opv (Ev.move (.t rfl)) ?_)
          refine cons (opv (Ev.lss_i (.t rfl) (.c (v := I 0) rfl)) ?_)
          refine nil ?_
          refine pN ?_
          first | refine condD rfl (fun h2 => ?_) (fun h2 => ?_) | refine cond rfl (fun h2 => ?_) (fun h2 => ?_)
          · try simp only [Bool.and_eq_true, Bool.or_eq_true, Bool.or_eq_false_iff, Bool.and_eq_false_iff, Bool.not_eq_true', Bool.not_eq_false', decide_eq_true_eq, decide_eq_false_iff_not, Decidable.not_not] at h2
            refine region ?_
            refine cons (opv (Ev.move (.t rfl)) ?_)
            refine cons (opv (Ev.move (.t rfl)) ?_)
            refine cons (opv (Ev.len Try.underlying27 (.t rfl) (by first | exact isSl_own (by repeat first | exact mH | apply mT | apply mA) | exact fun w I => IsSl.keep0 (by assumption) I.keeps)) ?_)
            refine cons (opv (Ev.add_i (.t rfl) (.t rfl) (fun _ => by omega)) ?_)
            refine cons (opv (Ev.assign (.t rfl)) ?_)
            refine nil ?_
            refine pN ?_
            refine meet (X := Int) (_) ?_ (by repeat first | exact Sub.nil | refine Sub.cons rfl ?_) (by repeat first | exact sR | exact sN | apply sC | apply sS | apply sA)
            · try dsimp only
              omega
          · try simp only [Bool.and_eq_true, Bool.or_eq_true, Bool.or_eq_false_iff, Bool.and_eq_false_iff, Bool.not_eq_true', Bool.not_eq_false', decide_eq_true_eq, decide_eq_false_iff_not, Decidable.not_not] at h2
            refine skip ?_
            refine pN ?_
            refine meet (X := Int) (_) ?_ (by repeat first | exact Sub.nil | refine Sub.cons rfl ?_) (by repeat first | exact sR | exact sN | apply sC | apply sS | apply sA)
            · try dsimp only
              omega
        obtain ⟨a, rfl⟩ : ∃ y, y = x := ⟨x, rfl⟩
        have ha : 0 ≤ a ∧ a < xs.length := hx
        clear hx
        show Sat _ _ [(1, true, v), (5, true, o.v), (6, true, I i), (7, true, .pointer (some ⟨b2, 0, none⟩)), (8, true, I a)] [Var b2 eLaw16Turn (ts.getD i.toNat eLaw16Turn.zero) 50, OwnS o.v u8E xs 5]
        refine region ?_
        refine cons (opv (Ev.move (.t rfl)) ?_)
        refine cons (opv (Ev.move (.t rfl)) ?_)
        refine cons (opv (Ev.fieldAddr (o := 1) (.t rfl) (by kernel_rfl)) ?_)
        refine cons (opv (Ev.load ty5 (.t rfl) (ptsVar (by repeat first | exact mH | apply mT | apply mA) SLaw16Turn.l_to_)) ?_)
        refine cons (opv (Ev.indexAddr Try.underlying27 ty5 (.t rfl) (.t rfl) (by first | exact isSl_own (by repeat first | exact mH | apply mT | apply mA) | exact fun w I => IsSl.keep0 (by assumption) I.keeps) (fun _ => by omega)) ?_)
        refine cons (storeS0 ty5 (.t rfl) (.t rfl) (by repeat first | exact Upd.head | apply Upd.tail | apply Upd.right) (by omega) ?_)
        refine nil ?_
        refine pN ?_
        refine meet (X := (List UInt8)) (_) ?_ (by repeat first | exact Sub.nil | refine Sub.cons rfl ?_) (by repeat first | exact sR | exact sN | apply sC | apply sS | apply sA)
        · try dsimp only
          try rw [List.length_set]
      · try simp only [Bool.and_eq_true, Bool.or_eq_true, Bool.or_eq_false_iff, Bool.and_eq_false_iff, Bool.not_eq_true', Bool.not_eq_false', decide_eq_true_eq, decide_eq_false_iff_not, Decidable.not_not] at h1
        refine skip ?_
        refine pN ?_
        refine meet (X := (List UInt8)) (_) ?_ (by repeat first | exact Sub.nil | refine Sub.cons rfl ?_) (by repeat first | exact sR | exact sN | apply sC | apply sS | apply sA)
        · try dsimp only
          try rw [List.length_set]
    obtain ⟨ys, rfl⟩ : ∃ y, y = x := ⟨x, rfl⟩
    have hyl : ys.length = xs.length := hx
    clear hx
    show Sat _ _ [(1, true, v), (5, true, o.v), (6, true, I i), (7, true, .pointer (some ⟨b2, 0, none⟩))] [Var b2 eLaw16Turn (ts.getD i.toNat eLaw16Turn.zero) 50, OwnS o.v u8E ys 5]
    refine cut (X := OV × (List UInt8)) (fun x : OV × (List UInt8) => (x.2.length ≤ ys.length)) (fun x : OV × (List UInt8) => [(1, true, v), (5, true, x.1.v), (6, true, I i), (7, true, .pointer (some ⟨b2, 0, none⟩))]) (fun x : OV × (List UInt8) => [Var b2 eLaw16Turn (ts.getD i.toNat eLaw16Turn.zero) 50, OwnS x.1.v u8E x.2 5]) ?_ (fun x hx => ?_)
    · refine seq ?_
      refine region ?_
      refine cons (opv (Ev.fieldAddr (o := 2) (.t rfl) (by kernel_rfl)) ?_)
      refine cons (opv (Ev.load ty3 (.t rfl) (ptsVar (by repeat first | exact mH | apply mT | apply mA) SLaw16Turn.l_cut)) ?_)
      refine cons (opv (Ev.gtr_i (.t rfl) (.c (v := I 0) rfl)) ?_)
      refine cons (opv (Ev.move (.t rfl)) ?_)
      refine cons (opg rfl rfl (Ev.fieldAddr (o := 2) (.t rfl) (by kernel_rfl)) ?_)
      refine cons (opg rfl rfl (Ev.load ty3 (.g rfl id) (ptsVar (by repeat first | exact mH | apply mT | apply mA) SLaw16Turn.l_cut)) ?_)
      refine cons (opg rfl rfl (Ev.move (.t rfl)) ?_)
      refine cons (opg rfl rfl (Ev.len Try.underlying27 (.g rfl id) (by first | exact isSl_own (by repeat first | exact mH | apply mT | apply mA) | exact fun w I => IsSl.keep0 (by assumption) I.keeps)) ?_)
      refine cons (opg rfl rfl (Ev.lss_i (.g rfl id) (.g rfl id)) ?_)
      refine cons (opv (Ev.pickA (.t rfl) (fun {_} h => by cases h; rfl) ⟨_, rfl⟩ (by intro h1 h; first | (rw [h] <;> rfl) | (rw [h1, h] <;> rfl) | (rw [h, h1] <;> rfl) | simp_all) (.c (v := .bool false) rfl)) ?_)
      refine nil ?_
      refine pN ?_
      first | refine condD rfl (fun h3 => ?_) (fun h3 => ?_) | refine cond rfl (fun h3 => ?_) (fun h3 => ?_)
      · try simp only [Bool.and_eq_true, Bool.or_eq_true, Bool.or_eq_false_iff, Bool.and_eq_false_iff, Bool.not_eq_true', Bool.not_eq_false', decide_eq_true_eq, decide_eq_false_iff_not, Decidable.not_not] at h3
        have h3 : 0 < (ts.getD i.toNat eLaw16Turn.zero).cut ∧ (ts.getD i.toNat eLaw16Turn.zero).cut < ys.length := h3
        have hcg : SLaw16Turn.l_cut.get (ts.getD i.toNat eLaw16Turn.zero) = (ts.getD i.toNat eLaw16Turn.zero).cut := rfl
        refine region ?_
        refine cons (opv (Ev.move (.t rfl)) ?_)
        refine cons (opv (Ev.move (.t rfl)) ?_)
        refine cons (opv (Ev.len Try.underlying27 (.t rfl) (by first | exact isSl_own (by repeat first | exact mH | apply mT | apply mA) | exact fun w I => IsSl.keep0 (by assumption) I.keeps)) ?_)
        refine cons (opv (Ev.fieldAddr (o := 2) (.t rfl) (by kernel_rfl)) ?_)
        refine cons (opv (Ev.load ty3 (.t rfl) (ptsVar (by repeat first | exact mH | apply mT | apply mA) SLaw16Turn.l_cut)) ?_)
        refine cons (opv (Ev.sub_i (.t rfl) (.t rfl) (fun _ => by omega)) ?_)
        refine cons (opv (Ev.sliceH Try.underlying27 ty5 (.t rfl) (.t rfl) (by first | exact isSl_own (by repeat first | exact mH | apply mT | apply mA) | exact fun w I => IsSl.keep0 (by assumption) I.keeps) (fun _ => by omega)) ?_)
        refine cutOwn (xs := ys) ((ys.length : Int) - (ts.getD i.toNat eLaw16Turn.zero).cut).toNat (by repeat first | exact Upd.head | apply Upd.tail | apply Upd.right) (by omega) ?_
        refine cons (opv (Ev.assign (.t rfl)) ?_)
        refine nil ?_
        refine pN ?_
        refine meet (X := OV × (List UInt8)) (OV.sub u8E.size o 0 ((ys.length : Int) - (ts.getD i.toNat eLaw16Turn.zero).cut).toNat, _) ?_ (by repeat first | exact Sub.nil | refine Sub.cons rfl ?_) (by repeat first | exact sR | exact sN | apply sC | apply sS | apply sA)
        · try dsimp only
          simp
          omega
      · try simp only [Bool.and_eq_true, Bool.or_eq_true, Bool.or_eq_false_iff, Bool.and_eq_false_iff, Bool.not_eq_true', Bool.not_eq_false', decide_eq_true_eq, decide_eq_false_iff_not, Decidable.not_not] at h3
        refine skip ?_
        refine pN ?_
        refine meet (X := OV × (List UInt8)) (_, _) ?_ (by repeat first | exact Sub.nil | refine Sub.cons rfl ?_) (by repeat first | exact sR | exact sN | apply sC | apply sS | apply sA)
        · try dsimp only
          omega
    obtain ⟨p, zs⟩ := x
    have hzl : zs.length ≤ ys.length := hx
    clear hx
    show Sat _ _ [(1, true, v), (5, true, p.v), (6, true, I i), (7, true, .pointer (some ⟨b2, 0, none⟩))] [Var b2 eLaw16Turn (ts.getD i.toNat eLaw16Turn.zero) 50, OwnS p.v u8E zs 5]
    refine region ?_
    refine cons (opv (Ev.move (.t rfl)) ?_)
    refine cons (opv (Ev.fieldAddr (o := 3) (.t rfl) (by kernel_rfl)) ?_)
    refine cons (opv (Ev.load ty27 (.t rfl) (ptsVar (by repeat first | exact mH | apply mT | apply mA) SLaw16Turn.l_more)) ?_)
    refine cons (opv (Ev.fieldAddr (o := 3) (.t rfl) (by kernel_rfl)) ?_)
    refine cons (opv (Ev.load ty27 (.t rfl) (ptsVar (by repeat first | exact mH | apply mT | apply mA) SLaw16Turn.l_more)) ?_)
    refine cons (opv (Ev.len Try.underlying27 (.t rfl) (fun w I => hm1.keep0 I.keeps)) ?_)
    refine cons (opv (Ev.min_i (.t rfl) (.c (v := I 40) rfl)) ?_)
    refine cons (opv (Ev.sliceH Try.underlying27 ty5 (.t rfl) (.t rfl) (fun w I => hm1.keep0 I.keeps) (fun _ => by omega)) ?_)
    refine cons (append (E := u8E) Try.underlying27 ty5 rfl zb5 zs5 (.t rfl) (.t rfl) (fun _ => by repeat first | exact Upd.head | apply Upd.tail | apply Upd.right) (fun w I => IsSl.sub (w := w) (hm1.keep0 I.keeps) (by omega) (by omega)) (⟨by (show _ ≤ 9223372036854775807); first | omega | (simp; done) | (simp; omega), by first | omega | (simp; done) | (simp; omega)⟩) (fun v3 => ?_))
    refine cons (opv (Ev.assign (.t rfl)) ?_)
    refine nil ?_
    refine bN ?_
    refine pN ?_
    refine region ?_
    refine cons (opv (Ev.move (.t rfl)) ?_)
    refine cons (opv (Ev.add_i (.t rfl) (.c (v := I 1) rfl) (fun _ => by omega)) ?_)
    refine cons (opv (Ev.assign (.t rfl)) ?_)
    refine nil ?_
    refine pN ?_
    refine next (X := Int × OV × (List UInt8)) (i + 1, _, _) ⟨?_, ?_⟩ ?_ (by repeat first | exact Sub.nil | refine Sub.cons rfl ?_) (by repeat first | exact sR | exact sN | apply sC | apply sS | apply sA)
    · try dsimp only
      omega
    · try dsimp only
      simp; omega
    · try dsimp only
      omega
  · try simp only [Bool.and_eq_true, Bool.or_eq_true, Bool.or_eq_false_iff, Bool.and_eq_false_iff, Bool.not_eq_true', Bool.not_eq_false', decide_eq_true_eq, decide_eq_false_iff_not, Decidable.not_not] at h0
    refine exit ?_
    refine pX ?_
    refine pX ?_
    refine bX ?_
    refine pN ?_
    refine seq ?_
    refine region ?_
    refine cons (opv (Ev.move (.t rfl)) ?_)
    refine cons (opv (Ev.assign (.t rfl)) ?_)
    refine nil ?_
    refine pN ?_
    refine ret ?_
    refine done rfl (.tmp rfl .nil) (fun w I => ?_)
    exact retN (o, xs) (by show xs.length ≤ _; omega) rfl (List.cons_sublist_cons.2 (List.nil_sublist _)) w I

theorem lawsum_ok (v : Value) (b : List UInt8) (w : World) (hb : IsSl u8E w v b) (hl : b.length = 20) : Calls Try.prog 26 #[v] w (RetN w (fun _ : UInt16 => True) (fun s => U16 s) (fun _ => [])) := by
  have hbl := hb.le
  refine enter0 36 Try.func26 rfl rfl (Nat.le_of_ble_eq_true rfl) ?_
  refine seq ?_
  refine region ?_
  refine cons (opv (Ev.assign (.c (v := U16 0) rfl)) ?_)
  refine nil ?_
  refine pN ?_
  refine seq ?_
  refine region ?_
  refine cons (opv (Ev.assign (.c (v := I 0) rfl)) ?_)
  refine nil ?_
  refine pN ?_
  refine seq ?_
  refine seq ?_
  refine region ?_
  refine cons (opv (Ev.assign (.c (v := I 0) rfl)) ?_)
  refine nil ?_
  refine pN ?_
  refine block ?_
  refine loop (X := Int × Int) (fun x : Int × Int => (0 ≤ x.2 ∧ x.2 ≤ 20 ∧ x.2 % 2 = 0) ∧ (0 ≤ x.1 ∧ x.1 ≤ 65536 * x.2)) (fun x : Int × Int => [(0, true, v), (3, true, I x.1), (4, true, I x.2)]) (fun x : Int × Int => []) (fun x : Int × Int => (20 - x.2).toNat) (0, 0) ⟨?_, ?_⟩ (by repeat first | exact Sub.nil | refine Sub.cons rfl ?_) (by repeat first | exact sR | exact sN | apply sC | apply sS | apply sA) (fun x hx => ?_)
  · omega
  · omega
  obtain ⟨n, i⟩ := x
  obtain ⟨hi, hn⟩ : (0 ≤ i ∧ i ≤ 20 ∧ i % 2 = 0) ∧ (0 ≤ n ∧ n ≤ 65536 * i) := hx
  show Sat _ _ [(0, true, v), (3, true, I n), (4, true, I i)] []
  refine seq ?_
  refine seq ?_
  refine region ?_
  refine cons (opv (Ev.move (.t rfl)) ?_)
  refine cons (opv (Ev.move (.t rfl)) ?_)
  refine cons (opv (Ev.len Try.underlying27 (.t rfl) (by first | exact isSl_own (by repeat first | exact mH | apply mT | apply mA) | exact fun w I => IsSl.keep0 (by assumption) I.keeps)) ?_)
  refine cons (opv (Ev.lss_i (.t rfl) (.t rfl)) ?_)
  refine nil ?_
  refine pN ?_
  first | refine condD rfl (fun h0 => ?_) (fun h0 => ?_) | refine cond rfl (fun h0 => ?_) (fun h0 => ?_)
  · try simp only [Bool.and_eq_true, Bool.or_eq_true, Bool.or_eq_false_iff, Bool.and_eq_false_iff, Bool.not_eq_true', Bool.not_eq_false', decide_eq_true_eq, decide_eq_false_iff_not, Decidable.not_not] at h0
    refine skip ?_
    refine pN ?_
    refine seq ?_
    refine block ?_
    refine draw' (by kernel_rfl) ?_
    have hx8 := (b.getD i.toNat u8E.zero).toNat_lt
    have hy8 := (b.getD (i + 1).toNat u8E.zero).toNat_lt
    have hor := Nat.or_lt_two_pow (n := 16) (show (b.getD i.toNat u8E.zero).toNat * 256 < 2 ^ 16 by omega) (show (b.getD (i + 1).toNat u8E.zero).toNat < 2 ^ 16 by omega)
    refine take 0 rfl (by kernel_rfl) (by kernel_rfl) (by kernel_rfl) (by repeat first | exact sR | exact sN | apply sC | apply sS | apply sA) (Ev.move (.t rfl)) ?_
    refine take 1 rfl (by kernel_rfl) (by kernel_rfl) (by kernel_rfl) (by repeat first | exact sR | exact sN | apply sC | apply sS | apply sA) (Ev.move (.t rfl)) ?_
    refine take 2 rfl (by kernel_rfl) (by kernel_rfl) (by kernel_rfl) (by repeat first | exact sR | exact sN | apply sC | apply sS | apply sA) (Ev.move (.t rfl)) ?_
    refine take 3 rfl (by kernel_rfl) (by kernel_rfl) (by kernel_rfl) (by repeat first | exact sR | exact sN | apply sC | apply sS | apply sA) (Ev.indexAddr Try.underlying27 ty5 (.t rfl) (.t rfl) (by first | exact isSl_own (by repeat first | exact mH | apply mT | apply mA) | exact fun w I => IsSl.keep0 (by assumption) I.keeps) (fun _ => by omega)) ?_
    refine take 4 rfl (by kernel_rfl) (by kernel_rfl) (by kernel_rfl) (by repeat first | exact sR | exact sN | apply sC | apply sS | apply sA) (Ev.loadS0 ty5 (.t rfl) (by first | exact isSl_own (by repeat first | exact mH | apply mT | apply mA) | exact fun w I => IsSl.keep0 (by assumption) I.keeps) (fun _ => by omega)) ?_
    refine take 5 rfl (by kernel_rfl) (by kernel_rfl) (by kernel_rfl) (by repeat first | exact sR | exact sN | apply sC | apply sS | apply sA) (Ev.conv_u8_i Try.underlying3 Try.underlying5 (.t rfl)) ?_
    refine take 6 rfl (by kernel_rfl) (by kernel_rfl) (by kernel_rfl) (by repeat first | exact sR | exact sN | apply sC | apply sS | apply sA) (Ev.to (v' := I (((b.getD i.toNat u8E.zero).toNat * 256 : Nat) : Int)) (Ev.shl_i (.t rfl) (.c rfl) (fun _ => by decide) (fun _ => fit256 hx8)) ((by unfold I; congr 1))) ?_
    refine take 7 rfl (by kernel_rfl) (by kernel_rfl) (by kernel_rfl) (by repeat first | exact sR | exact sN | apply sC | apply sS | apply sA) (Ev.move (.t rfl)) ?_
    refine take 8 rfl (by kernel_rfl) (by kernel_rfl) (by kernel_rfl) (by repeat first | exact sR | exact sN | apply sC | apply sS | apply sA) (Ev.move (.t rfl)) ?_
    refine take 9 rfl (by kernel_rfl) (by kernel_rfl) (by kernel_rfl) (by repeat first | exact sR | exact sN | apply sC | apply sS | apply sA) (Ev.add_i (.t rfl) (.c (v := I 1) rfl) (fun _ => by omega)) ?_
    refine take 10 rfl (by kernel_rfl) (by kernel_rfl) (by kernel_rfl) (by repeat first | exact sR | exact sN | apply sC | apply sS | apply sA) (Ev.indexAddr Try.underlying27 ty5 (.t rfl) (.t rfl) (by first | exact isSl_own (by repeat first | exact mH | apply mT | apply mA) | exact fun w I => IsSl.keep0 (by assumption) I.keeps) (fun _ => by omega)) ?_
    refine take 11 rfl (by kernel_rfl) (by kernel_rfl) (by kernel_rfl) (by repeat first | exact sR | exact sN | apply sC | apply sS | apply sA) (Ev.loadS0 ty5 (.t rfl) (by first | exact isSl_own (by repeat first | exact mH | apply mT | apply mA) | exact fun w I => IsSl.keep0 (by assumption) I.keeps) (fun _ => by omega)) ?_
    refine take 12 rfl (by kernel_rfl) (by kernel_rfl) (by kernel_rfl) (by repeat first | exact sR | exact sN | apply sC | apply sS | apply sA) (Ev.conv_u8_i Try.underlying3 Try.underlying5 (.t rfl)) ?_
    refine take 13 rfl (by kernel_rfl) (by kernel_rfl) (by kernel_rfl) (by repeat first | exact sR | exact sN | apply sC | apply sS | apply sA) (Ev.bits_i (m := (b.getD i.toNat u8E.zero).toNat * 256) (n := (b.getD (i + 1).toNat u8E.zero).toNat) (r := (b.getD i.toNat u8E.zero).toNat * 256 ||| (b.getD (i + 1).toNat u8E.zero).toNat) (.inr (.inl rfl)) (.t rfl) (.t rfl) (fun _ => by omega) (fun _ => by omega) rfl) ?_
    refine take 14 rfl (by kernel_rfl) (by kernel_rfl) (by kernel_rfl) (by repeat first | exact sR | exact sN | apply sC | apply sS | apply sA) (Ev.add_i (.t rfl) (.t rfl) (fun _ => by omega)) ?_
    refine take 15 rfl (by kernel_rfl) (by kernel_rfl) (by kernel_rfl) (by repeat first | exact sR | exact sN | apply sC | apply sS | apply sA) (Ev.assign (.t rfl)) ?_
    refine over (by kernel_rfl) ?_
    refine bN ?_
    refine pN ?_
    refine region ?_
    refine cons (opv (Ev.move (.t rfl)) ?_)
    refine cons (opv (Ev.add_i (.t rfl) (.c (v := I 2) rfl) (fun _ => by omega)) ?_)
    refine cons (opv (Ev.assign (.t rfl)) ?_)
    refine nil ?_
    refine pN ?_
    refine next (X := Int × Int) (_, i + 2) ⟨?_, ?_⟩ ?_ (by repeat first | exact Sub.nil | refine Sub.cons rfl ?_) (by repeat first | exact sR | exact sN | apply sC | apply sS | apply sA)
    · try dsimp only
      omega
    · try dsimp only
      omega
    · try dsimp only
      omega
  · try simp only [Bool.and_eq_true, Bool.or_eq_true, Bool.or_eq_false_iff, Bool.and_eq_false_iff, Bool.not_eq_true', Bool.not_eq_false', decide_eq_true_eq, decide_eq_false_iff_not, Decidable.not_not] at h0
    refine exit ?_
    refine pX ?_
    refine pX ?_
    refine bX ?_
    refine pN ?_
    refine seq ?_
    refine block ?_
    refine loop (X := Int) (fun x : Int => (0 ≤ x ∧ x ≤ 1310720)) (fun x : Int => [(3, true, I x)]) (fun x : Int => []) (fun x : Int => x.toNat) (n) ?_ (by repeat first | exact Sub.nil | refine Sub.cons rfl ?_) (by repeat first | exact sR | exact sN | apply sC | apply sS | apply sA) (fun x hx => ?_)
    · omega
    obtain ⟨n, rfl⟩ : ∃ y, y = x := ⟨x, rfl⟩
    have hn : 0 ≤ n ∧ n ≤ 1310720 := hx
    clear hx
    show Sat _ _ [(3, true, I n)] []
    refine seq ?_
    refine seq ?_
    refine region ?_
    refine cons (opv (Ev.move (.t rfl)) ?_)
    refine cons (opv (Ev.gtr_i (.t rfl) (.c (v := I 65535) rfl)) ?_)
    refine nil ?_
    refine pN ?_
    first | refine condD rfl (fun h1 => ?_) (fun h1 => ?_) | refine cond rfl (fun h1 => ?_) (fun h1 => ?_)
    · try simp only [Bool.and_eq_true, Bool.or_eq_true, Bool.or_eq_false_iff, Bool.and_eq_false_iff, Bool.not_eq_true', Bool.not_eq_false', decide_eq_true_eq, decide_eq_false_iff_not, Decidable.not_not] at h1
      refine skip ?_
      refine pN ?_
      refine block ?_
      refine region ?_
      obtain ⟨m, rfl⟩ : ∃ m : Nat, (m : Int) = n := ⟨n.toNat, by omega⟩
      have hand : m &&& 65535 = m % 65536 := Nat.and_two_pow_sub_one_eq_mod m 16
      have h16 : (m : Int) / 2 ^ Int.toNat 16 = (m : Int) / 65536 := by rw [show (2 : Int) ^ Int.toNat 16 = 65536 from by decide]
      refine cons (opv (Ev.move (.t rfl)) ?_)
      refine cons (opv (Ev.shr_i (.t rfl) (.c rfl) (fun _ => by decide)) ?_)
      refine cons (opv (Ev.move (.t rfl)) ?_)
      refine cons (opv (Ev.bits_i (m := m) (n := 65535) (r := m &&& 65535) (.inl rfl) (.t rfl) (.c rfl) (fun _ => by omega) (fun _ => by decide) rfl) ?_)
      refine cons (opv (Ev.add_i (.t rfl) (.t rfl) (fun _ => by omega)) ?_)
      refine cons (opv (Ev.assign (.t rfl)) ?_)
      refine nil ?_
      refine bN ?_
      refine pN ?_
      refine next (X := Int) (_) ?_ ?_ (by repeat first | exact Sub.nil | refine Sub.cons rfl ?_) (by repeat first | exact sR | exact sN | apply sC | apply sS | apply sA)
      · try dsimp only
        have hq := hand; omega
      · try dsimp only
        have hq := hand; omega
    · try simp only [Bool.and_eq_true, Bool.or_eq_true, Bool.or_eq_false_iff, Bool.and_eq_false_iff, Bool.not_eq_true', Bool.not_eq_false', decide_eq_true_eq, decide_eq_false_iff_not, Decidable.not_not] at h1
      refine exit ?_
      refine pX ?_
      refine pX ?_
      refine bX ?_
      refine pN ?_
      refine seq ?_
      refine region ?_
      refine cons (opv (Ev.move (.t rfl)) ?_)
      refine cons (opv (Ev.sub_i (.c (v := I 65535) rfl) (.t rfl) (fun _ => by omega)) ?_)
      refine cons (opv (Ev.conv_i_u16 Try.underlying25 Try.underlying3 (.t rfl)) ?_)
      refine cons (opv (Ev.assign (.t rfl)) ?_)
      refine nil ?_
      refine pN ?_
      refine ret ?_
      refine done rfl (.tmp rfl .nil) (fun w I => ?_)
      exact retN _ trivial rfl (List.nil_sublist _) w I
end Go.Proofs.Ytegcihhhighipaa
