/- packet -/
import Derived.Test.YtegcihhhighipaaP16
set_option linter.unusedVariables false
set_option linter.unusedSimpArgs false
namespace Go.Proofs.Ytegcihhhighipaa
open Go Go.Gx

theorem rsame_ok (a b : SHeader) (d1 d2 : List UInt8) (w : World) (hx : IsSl u8E w a.data.v d1) (hy : IsSl u8E w b.data.v d2) : Calls Try.prog 20 #[eHeader.val a, eHeader.val b] w (RetV w (.bool (sameB a b d1 d2))) := by
  have hxl := hx.le
  have hyl := hy.le
  refine enter0 101 Try.func20 rfl rfl (Nat.le_of_ble_eq_true rfl) ?_
  refine seq ?_
  refine region ?_
  refine cons (box (E := eHeader) (.t rfl) (fun b1 => ?_))
  refine cons (box (E := eHeader) (.t rfl) (fun b2 => ?_))
  refine cons (opv (Ev.assign (.c (v := .bool false) rfl)) ?_)
  refine nil ?_
  refine pN ?_
  refine seq ?_
  refine seq ?_
  refine region ?_
  refine cons (opv (Ev.fieldAddr (o := 0) (.t rfl) (by kernel_rfl)) ?_)
  refine cons (opv (Ev.load (xv := a.src) ty24 (.t rfl) (ptsVar (by repeat first | exact mH | apply mT | apply mA) SHeader.l_src)) ?_)
  refine cons (opv (Ev.fieldAddr (o := 0) (.t rfl) (by kernel_rfl)) ?_)
  refine cons (opv (Ev.load (xv := b.src) ty24 (.t rfl) (ptsVar (by repeat first | exact mH | apply mT | apply mA) SHeader.l_src)) ?_)
  refine cons (opv (Ev.neqS rfl eqok24 rfl (by kernel_rfl) (.t rfl) (.t rfl)) ?_)
  refine cons (opv (Ev.move (.t rfl)) ?_)
  refine cons (opg rfl rfl (Ev.fieldAddr (o := 17) (.t rfl) (by kernel_rfl)) ?_)
  refine cons (opg rfl rfl (Ev.load (xv := a.dst) ty24 (.g rfl id) (ptsVar (by repeat first | exact mH | apply mT | apply mA) SHeader.l_dst)) ?_)
  refine cons (opg rfl rfl (Ev.fieldAddr (o := 17) (.t rfl) (by kernel_rfl)) ?_)
  refine cons (opg rfl rfl (Ev.load (xv := b.dst) ty24 (.g rfl id) (ptsVar (by repeat first | exact mH | apply mT | apply mA) SHeader.l_dst)) ?_)
  refine cons (opg rfl rfl (Ev.neqS rfl eqok24 rfl (by kernel_rfl) (.g rfl id) (.g rfl id)) ?_)
  refine cons (opv (Ev.pickO (.t rfl) (.c (v := .bool true) rfl) (fun {_} h => by cases h; rfl) ⟨_, rfl⟩ (by intro h1 h; first | (rw [h] <;> rfl) | (rw [h1, h] <;> rfl) | (rw [h, h1] <;> rfl) | simp_all)) ?_)
  refine cons (opv (Ev.move (.t rfl)) ?_)
  refine cons (opg rfl rfl (Ev.fieldAddr (o := 34) (.t rfl) (by kernel_rfl)) ?_)
  refine cons (opg rfl rfl (Ev.load (xv := a.proto) ty5 (.g rfl id) (ptsVar (by repeat first | exact mH | apply mT | apply mA) SHeader.l_proto)) ?_)
  refine cons (opg rfl rfl (Ev.fieldAddr (o := 34) (.t rfl) (by kernel_rfl)) ?_)
  refine cons (opg rfl rfl (Ev.load (xv := b.proto) ty5 (.g rfl id) (ptsVar (by repeat first | exact mH | apply mT | apply mA) SHeader.l_proto)) ?_)
  refine cons (opg rfl rfl (Ev.neq_u8 (.g rfl id) (.g rfl id)) ?_)
  refine cons (opv (Ev.pickO (.t rfl) (.c (v := .bool true) rfl) (fun {_} h => by cases h; rfl) ⟨_, rfl⟩ (by intro h1 h; first | (rw [h] <;> rfl) | (rw [h1, h] <;> rfl) | (rw [h, h1] <;> rfl) | simp_all)) ?_)
  refine cons (opv (Ev.move (.t rfl)) ?_)
  refine cons (opg rfl rfl (Ev.fieldAddr (o := 35) (.t rfl) (by kernel_rfl)) ?_)
  refine cons (opg rfl rfl (Ev.load (xv := a.srcPort) ty25 (.g rfl id) (ptsVar (by repeat first | exact mH | apply mT | apply mA) SHeader.l_srcPort)) ?_)
  refine cons (opg rfl rfl (Ev.fieldAddr (o := 35) (.t rfl) (by kernel_rfl)) ?_)
  refine cons (opg rfl rfl (Ev.load (xv := b.srcPort) ty25 (.g rfl id) (ptsVar (by repeat first | exact mH | apply mT | apply mA) SHeader.l_srcPort)) ?_)
  refine cons (opg rfl rfl (Ev.neq_u16 (.g rfl id) (.g rfl id)) ?_)
  refine cons (opv (Ev.pickO (.t rfl) (.c (v := .bool true) rfl) (fun {_} h => by cases h; rfl) ⟨_, rfl⟩ (by intro h1 h; first | (rw [h] <;> rfl) | (rw [h1, h] <;> rfl) | (rw [h, h1] <;> rfl) | simp_all)) ?_)
  refine cons (opv (Ev.move (.t rfl)) ?_)
  refine cons (opg rfl rfl (Ev.fieldAddr (o := 36) (.t rfl) (by kernel_rfl)) ?_)
  refine cons (opg rfl rfl (Ev.load (xv := a.dstPort) ty25 (.g rfl id) (ptsVar (by repeat first | exact mH | apply mT | apply mA) SHeader.l_dstPort)) ?_)
  refine cons (opg rfl rfl (Ev.fieldAddr (o := 36) (.t rfl) (by kernel_rfl)) ?_)
  refine cons (opg rfl rfl (Ev.load (xv := b.dstPort) ty25 (.g rfl id) (ptsVar (by repeat first | exact mH | apply mT | apply mA) SHeader.l_dstPort)) ?_)
  refine cons (opg rfl rfl (Ev.neq_u16 (.g rfl id) (.g rfl id)) ?_)
  refine cons (opv (Ev.pickO (.t rfl) (.c (v := .bool true) rfl) (fun {_} h => by cases h; rfl) ⟨_, rfl⟩ (by intro h1 h; first | (rw [h] <;> rfl) | (rw [h1, h] <;> rfl) | (rw [h, h1] <;> rfl) | simp_all)) ?_)
  refine cons (opv (Ev.move (.t rfl)) ?_)
  refine cons (opg rfl rfl (Ev.fieldAddr (o := 37) (.t rfl) (by kernel_rfl)) ?_)
  refine cons (opg rfl rfl (Ev.load (xv := a.tTL) ty5 (.g rfl id) (ptsVar (by repeat first | exact mH | apply mT | apply mA) SHeader.l_tTL)) ?_)
  refine cons (opg rfl rfl (Ev.fieldAddr (o := 37) (.t rfl) (by kernel_rfl)) ?_)
  refine cons (opg rfl rfl (Ev.load (xv := b.tTL) ty5 (.g rfl id) (ptsVar (by repeat first | exact mH | apply mT | apply mA) SHeader.l_tTL)) ?_)
  refine cons (opg rfl rfl (Ev.neq_u8 (.g rfl id) (.g rfl id)) ?_)
  refine cons (opv (Ev.pickO (.t rfl) (.c (v := .bool true) rfl) (fun {_} h => by cases h; rfl) ⟨_, rfl⟩ (by intro h1 h; first | (rw [h] <;> rfl) | (rw [h1, h] <;> rfl) | (rw [h, h1] <;> rfl) | simp_all)) ?_)
  refine cons (opv (Ev.move (.t rfl)) ?_)
  refine cons (opg rfl rfl (Ev.fieldAddr (o := 38) (.t rfl) (by kernel_rfl)) ?_)
  refine cons (opg rfl rfl (Ev.load (xv := a.class_) ty5 (.g rfl id) (ptsVar (by repeat first | exact mH | apply mT | apply mA) SHeader.l_class_)) ?_)
  refine cons (opg rfl rfl (Ev.fieldAddr (o := 38) (.t rfl) (by kernel_rfl)) ?_)
  refine cons (opg rfl rfl (Ev.load (xv := b.class_) ty5 (.g rfl id) (ptsVar (by repeat first | exact mH | apply mT | apply mA) SHeader.l_class_)) ?_)
  refine cons (opg rfl rfl (Ev.neq_u8 (.g rfl id) (.g rfl id)) ?_)
  refine cons (opv (Ev.pickO (.t rfl) (.c (v := .bool true) rfl) (fun {_} h => by cases h; rfl) ⟨_, rfl⟩ (by intro h1 h; first | (rw [h] <;> rfl) | (rw [h1, h] <;> rfl) | (rw [h, h1] <;> rfl) | simp_all)) ?_)
  refine cons (opv (Ev.move (.t rfl)) ?_)
  refine cons (opg rfl rfl (Ev.fieldAddr (o := 39) (.t rfl) (by kernel_rfl)) ?_)
  refine cons (opg rfl rfl (Ev.load (xv := a.id) ty26 (.g rfl id) (ptsVar (by repeat first | exact mH | apply mT | apply mA) SHeader.l_id)) ?_)
  refine cons (opg rfl rfl (Ev.fieldAddr (o := 39) (.t rfl) (by kernel_rfl)) ?_)
  refine cons (opg rfl rfl (Ev.load (xv := b.id) ty26 (.g rfl id) (ptsVar (by repeat first | exact mH | apply mT | apply mA) SHeader.l_id)) ?_)
  refine cons (opg rfl rfl (Ev.neq_u32 (.g rfl id) (.g rfl id)) ?_)
  refine cons (opv (Ev.pickO (.t rfl) (.c (v := .bool true) rfl) (fun {_} h => by cases h; rfl) ⟨_, rfl⟩ (by intro h1 h; first | (rw [h] <;> rfl) | (rw [h1, h] <;> rfl) | (rw [h, h1] <;> rfl) | simp_all)) ?_)
  refine cons (opv (Ev.move (.t rfl)) ?_)
  refine cons (opg rfl rfl (Ev.fieldAddr (o := 40) (.t rfl) (by kernel_rfl)) ?_)
  refine cons (opg rfl rfl (Ev.load (xv := a.flags) ty5 (.g rfl id) (ptsVar (by repeat first | exact mH | apply mT | apply mA) SHeader.l_flags)) ?_)
  refine cons (opg rfl rfl (Ev.fieldAddr (o := 40) (.t rfl) (by kernel_rfl)) ?_)
  refine cons (opg rfl rfl (Ev.load (xv := b.flags) ty5 (.g rfl id) (ptsVar (by repeat first | exact mH | apply mT | apply mA) SHeader.l_flags)) ?_)
  refine cons (opg rfl rfl (Ev.neq_u8 (.g rfl id) (.g rfl id)) ?_)
  refine cons (opv (Ev.pickO (.t rfl) (.c (v := .bool true) rfl) (fun {_} h => by cases h; rfl) ⟨_, rfl⟩ (by intro h1 h; first | (rw [h] <;> rfl) | (rw [h1, h] <;> rfl) | (rw [h, h1] <;> rfl) | simp_all)) ?_)
  refine cons (opv (Ev.move (.t rfl)) ?_)
  refine cons (opg rfl rfl (Ev.fieldAddr (o := 41) (.t rfl) (by kernel_rfl)) ?_)
  refine cons (opg rfl rfl (Ev.load (xv := a.seq) ty26 (.g rfl id) (ptsVar (by repeat first | exact mH | apply mT | apply mA) SHeader.l_seq)) ?_)
  refine cons (opg rfl rfl (Ev.fieldAddr (o := 41) (.t rfl) (by kernel_rfl)) ?_)
  refine cons (opg rfl rfl (Ev.load (xv := b.seq) ty26 (.g rfl id) (ptsVar (by repeat first | exact mH | apply mT | apply mA) SHeader.l_seq)) ?_)
  refine cons (opg rfl rfl (Ev.neq_u32 (.g rfl id) (.g rfl id)) ?_)
  refine cons (opv (Ev.pickO (.t rfl) (.c (v := .bool true) rfl) (fun {_} h => by cases h; rfl) ⟨_, rfl⟩ (by intro h1 h; first | (rw [h] <;> rfl) | (rw [h1, h] <;> rfl) | (rw [h, h1] <;> rfl) | simp_all)) ?_)
  refine cons (opv (Ev.move (.t rfl)) ?_)
  refine cons (opg rfl rfl (Ev.fieldAddr (o := 42) (.t rfl) (by kernel_rfl)) ?_)
  refine cons (opg rfl rfl (Ev.load (xv := a.data) ty27 (.g rfl id) (ptsVar (by repeat first | exact mH | apply mT | apply mA) SHeader.l_data)) ?_)
  refine cons (opg rfl rfl (Ev.len Try.underlying27 (.g rfl id) (fun w I => hx.keep0 I.keeps)) ?_)
  refine cons (opg rfl rfl (Ev.fieldAddr (o := 42) (.t rfl) (by kernel_rfl)) ?_)
  refine cons (opg rfl rfl (Ev.load (xv := b.data) ty27 (.g rfl id) (ptsVar (by repeat first | exact mH | apply mT | apply mA) SHeader.l_data)) ?_)
  refine cons (opg rfl rfl (Ev.len Try.underlying27 (.g rfl id) (fun w I => hy.keep0 I.keeps)) ?_)
  refine cons (opg rfl rfl (Ev.neq_i (.g rfl id) (.g rfl id)) ?_)
  refine cons (opv (Ev.pickO (.t rfl) (.c (v := .bool true) rfl) (fun {_} h => by cases h; rfl) ⟨_, rfl⟩ (by intro h1 h; first | (rw [h] <;> rfl) | (rw [h1, h] <;> rfl) | (rw [h, h1] <;> rfl) | simp_all)) ?_)
  refine nil ?_
  refine pN ?_
  first | refine condD rfl (fun h0 => ?_) (fun h0 => ?_) | refine cond rfl (fun h0 => ?_) (fun h0 => ?_)
  · try simp only [Bool.and_eq_true, Bool.or_eq_true, Bool.or_eq_false_iff, Bool.and_eq_false_iff, Bool.not_eq_true', Bool.not_eq_false', decide_eq_true_eq, decide_eq_false_iff_not, Decidable.not_not] at h0
    refine seq ?_
    refine region ?_
    refine cons (opv (Ev.assign (.c (v := .bool false) rfl)) ?_)
    refine nil ?_
    refine pN ?_
    refine ret ?_
    refine pR ?_
    refine done rfl (.tmp rfl .nil) (retE ?_)
    unfold sameB
    rw [decide_eq_false (by
      rintro ⟨e0, e1, e2, e3, e4, e5, e6, e7, e8, e9, e10⟩
      subst e0
      simp_all)]
    rfl
  · try simp only [Bool.and_eq_true, Bool.or_eq_true, Bool.or_eq_false_iff, Bool.and_eq_false_iff, Bool.not_eq_true', Bool.not_eq_false', decide_eq_true_eq, decide_eq_false_iff_not, Decidable.not_not] at h0
    have hlen : (d1.length : Int) = d2.length := h0.2
    refine skip ?_
    refine pN ?_
    refine seq ?_
    refine seq ?_
    refine region ?_
    refine cons (opv (Ev.assign (.c (v := I 0) rfl)) ?_)
    refine nil ?_
    refine pN ?_
    refine block ?_
    refine loop (X := Int) (fun x : Int => (0 ≤ x ∧ x ≤ d1.length) ∧ (d1.take x.toNat = d2.take x.toNat)) (fun x : Int => [(2, true, .pointer (some ⟨b1, 0, none⟩)), (3, true, .pointer (some ⟨b2, 0, none⟩)), (5, true, I x)]) (fun x : Int => [Var b2 eHeader b 29, Var b1 eHeader a 29]) (fun x : Int => (d1.length - x).toNat) (0) ⟨?_, ?_⟩ (by repeat first | exact Sub.nil | refine Sub.cons rfl ?_) (by repeat first | exact sR | exact sN | apply sC | apply sS | apply sA) (fun x hx => ?_)
    · omega
    · rfl
    obtain ⟨i, rfl⟩ : ∃ y, y = x := ⟨x, rfl⟩
    obtain ⟨hi, ht⟩ : (0 ≤ i ∧ i ≤ d1.length) ∧ (d1.take i.toNat = d2.take i.toNat) := hx
    show Sat _ _ [(2, true, .pointer (some ⟨b1, 0, none⟩)), (3, true, .pointer (some ⟨b2, 0, none⟩)), (5, true, I i)] [Var b2 eHeader b 29, Var b1 eHeader a 29]
    refine seq ?_
    refine seq ?_
    refine region ?_
    refine cons (opv (Ev.move (.t rfl)) ?_)
    refine cons (opv (Ev.fieldAddr (o := 42) (.t rfl) (by kernel_rfl)) ?_)
    refine cons (opv (Ev.load (xv := a.data) ty27 (.t rfl) (ptsVar (by repeat first | exact mH | apply mT | apply mA) SHeader.l_data)) ?_)
    refine cons (opv (Ev.len Try.underlying27 (.t rfl) (fun w I => hx.keep0 I.keeps)) ?_)
    refine cons (opv (Ev.lss_i (.t rfl) (.t rfl)) ?_)
    refine nil ?_
    refine pN ?_
    first | refine condD rfl (fun hlt => ?_) (fun hge => ?_) | refine cond rfl (fun hlt => ?_) (fun hge => ?_)
    · try simp only [Bool.and_eq_true, Bool.or_eq_true, Bool.or_eq_false_iff, Bool.and_eq_false_iff, Bool.not_eq_true', Bool.not_eq_false', decide_eq_true_eq, decide_eq_false_iff_not, Decidable.not_not] at hlt
      refine skip ?_
      refine pN ?_
      refine seq ?_
      refine block ?_
      refine seq ?_
      refine draw' (by kernel_rfl) ?_
      refine take 0 rfl (by kernel_rfl) (by kernel_rfl) (by kernel_rfl) (by repeat first | exact sR | exact sN | apply sC | apply sS | apply sA) (Ev.fieldAddr (o := 42) (.t rfl) (by kernel_rfl)) ?_
      refine take 1 rfl (by kernel_rfl) (by kernel_rfl) (by kernel_rfl) (by repeat first | exact sR | exact sN | apply sC | apply sS | apply sA) (Ev.load (xv := a.data) ty27 (.t rfl) (ptsVar (by repeat first | exact mH | apply mT | apply mA) SHeader.l_data)) ?_
      refine take 2 rfl (by kernel_rfl) (by kernel_rfl) (by kernel_rfl) (by repeat first | exact sR | exact sN | apply sC | apply sS | apply sA) (Ev.move (.t rfl)) ?_
      refine take 3 rfl (by kernel_rfl) (by kernel_rfl) (by kernel_rfl) (by repeat first | exact sR | exact sN | apply sC | apply sS | apply sA) (Ev.indexAddr Try.underlying27 ty5 (.t rfl) (.t rfl) (fun w I => hx.keep0 I.keeps) (fun _ => by omega)) ?_
      refine take 4 rfl (by kernel_rfl) (by kernel_rfl) (by kernel_rfl) (by repeat first | exact sR | exact sN | apply sC | apply sS | apply sA) (Ev.loadS0 ty5 (.t rfl) (fun w I => hx.keep0 I.keeps) (fun _ => by omega)) ?_
      refine take 5 rfl (by kernel_rfl) (by kernel_rfl) (by kernel_rfl) (by repeat first | exact sR | exact sN | apply sC | apply sS | apply sA) (Ev.fieldAddr (o := 42) (.t rfl) (by kernel_rfl)) ?_
      refine take 6 rfl (by kernel_rfl) (by kernel_rfl) (by kernel_rfl) (by repeat first | exact sR | exact sN | apply sC | apply sS | apply sA) (Ev.load (xv := b.data) ty27 (.t rfl) (ptsVar (by repeat first | exact mH | apply mT | apply mA) SHeader.l_data)) ?_
      refine take 7 rfl (by kernel_rfl) (by kernel_rfl) (by kernel_rfl) (by repeat first | exact sR | exact sN | apply sC | apply sS | apply sA) (Ev.move (.t rfl)) ?_
      refine take 8 rfl (by kernel_rfl) (by kernel_rfl) (by kernel_rfl) (by repeat first | exact sR | exact sN | apply sC | apply sS | apply sA) (Ev.indexAddr Try.underlying27 ty5 (.t rfl) (.t rfl) (fun w I => hy.keep0 I.keeps) (fun _ => by omega)) ?_
      refine take 9 rfl (by kernel_rfl) (by kernel_rfl) (by kernel_rfl) (by repeat first | exact sR | exact sN | apply sC | apply sS | apply sA) (Ev.loadS0 ty5 (.t rfl) (fun w I => hy.keep0 I.keeps) (fun _ => by omega)) ?_
      refine take 10 rfl (by kernel_rfl) (by kernel_rfl) (by kernel_rfl) (by repeat first | exact sR | exact sN | apply sC | apply sS | apply sA) (Ev.neq_u8 (.t rfl) (.t rfl)) ?_
      refine over (by kernel_rfl) ?_
      refine pN ?_
      first | refine condD rfl (fun h2 => ?_) (fun h2 => ?_) | refine cond rfl (fun h2 => ?_) (fun h2 => ?_)
      · try simp only [Bool.and_eq_true, Bool.or_eq_true, Bool.or_eq_false_iff, Bool.and_eq_false_iff, Bool.not_eq_true', Bool.not_eq_false', decide_eq_true_eq, decide_eq_false_iff_not, Decidable.not_not] at h2
        refine seq ?_
        refine region ?_
        refine cons (opv (Ev.assign (.c (v := .bool false) rfl)) ?_)
        refine nil ?_
        refine pN ?_
        refine ret ?_
        refine bR ?_
        refine pR ?_
        refine pR ?_
        refine bR ?_
        refine pR ?_
        refine done rfl (.tmp rfl .nil) (retE ?_)
        unfold sameB
        rw [decide_eq_false (by
          rintro ⟨e0, e1, e2, e3, e4, e5, e6, e7, e8, e9, e10⟩
          subst e0
          exact h2 rfl)]
        rfl
      · try simp only [Bool.and_eq_true, Bool.or_eq_true, Bool.or_eq_false_iff, Bool.and_eq_false_iff, Bool.not_eq_true', Bool.not_eq_false', decide_eq_true_eq, decide_eq_false_iff_not, Decidable.not_not] at h2
        refine skip ?_
        refine bN ?_
        refine pN ?_
        refine region ?_
        refine cons (opv (Ev.move (.t rfl)) ?_)
        refine cons (opv (Ev.add_i (.t rfl) (.c (v := I 1) rfl) (fun _ => by omega)) ?_)
        refine cons (opv (Ev.assign (.t rfl)) ?_)
        refine nil ?_
        refine pN ?_
        refine next (X := Int) (i + 1) ⟨?_, ?_⟩ ?_ (by repeat first | exact Sub.nil | refine Sub.cons rfl ?_) (by repeat first | exact sR | exact sN | apply sC | apply sS | apply sA)
        · try dsimp only
          omega
        · try dsimp only
          have e : (i + 1).toNat = i.toNat + 1 := by omega
          have h3 : i.toNat < d1.length := by omega
          have h4 : i.toNat < d2.length := by omega
          rw [e, List.take_succ_eq_append_getElem h3, List.take_succ_eq_append_getElem h4, ht]
          congr 2
          have h2 : d1.getD i.toNat 0 = d2.getD i.toNat 0 := h2
          simpa [List.getD, h3, h4] using h2
        · try dsimp only
          omega
    · try simp only [Bool.and_eq_true, Bool.or_eq_true, Bool.or_eq_false_iff, Bool.and_eq_false_iff, Bool.not_eq_true', Bool.not_eq_false', decide_eq_true_eq, decide_eq_false_iff_not, Decidable.not_not] at hge
      refine exit ?_
      refine pX ?_
      refine pX ?_
      refine bX ?_
      refine pN ?_
      refine seq ?_
      refine region ?_
      refine cons (opv (Ev.assign (.c (v := .bool true) rfl)) ?_)
      refine nil ?_
      refine pN ?_
      refine ret ?_
      refine done rfl (.tmp rfl .nil) (retE ?_)
      have e : i.toNat = d1.length := by omega
      rw [e, List.take_length, List.take_of_length_le (by omega)] at ht
      unfold sameB
      rw [decide_eq_true (by simp_all)]
      rfl

theorem takeB_num (b : List UInt8) (p : Int) (n : Nat) (h : 0 ≤ p ∧ p + n ≤ b.length) : (takeB b p n).1 = numB ((b.take (p + n).toNat).drop p.toNat) := by unfold takeB; rw [if_pos h]
theorem numB_small (b : List UInt8) (p n : Int) (h : 0 ≤ p ∧ 0 ≤ n ∧ n ≤ 4 ∧ p + n ≤ b.length) : (numB ((b.take (p + n).toNat).drop p.toNat)).toNat < 4294967296 := by
  have h1 := numB_lt ((b.take (p + n).toNat).drop p.toNat) (by simp; omega)
  have h2 : ((b.take (p + n).toNat).drop p.toNat).length ≤ 4 := by simp; omega
  have h3 : 256 ^ ((b.take (p + n).toNat).drop p.toNat).length ≤ 256 ^ 4 := Nat.pow_le_pow_right (by decide) h2
  omega
/-- Some bytes as an address's, the others 0. -/
def adrV (b : List UInt8) (p n : Int) : Vector UInt8 16 := Vector.ofFn fun i => if (i.val : Int) < n then b.getD (p.toNat + i.val) 0 else 0
theorem adrV_zero (b : List UInt8) (p : Int) : adrV b p 0 = Vector.replicate 16 0 := by
  apply Vector.ext
  intro i hi
  have : ¬ (i : Int) < 0 := by omega
  simp [adrV, this]
theorem adrV_step (b : List UInt8) (p k : Int) (hp : 0 ≤ p) (h0 : 0 ≤ k) (h1 : k < 16) (hk : k.toNat < 16) : (adrV b p k).set k.toNat (b.getD (p + k).toNat 0) hk = adrV b p (k + 1) := by
  apply Vector.ext
  intro i hi
  rw [Vector.getElem_set]
  by_cases e : k.toNat = i
  · subst e
    have e2 : ((k.toNat : Nat) : Int) < k + 1 := by omega
    have e3 : (p + k).toNat = p.toNat + k.toNat := by omega
    simp only [adrV, Vector.getElem_ofFn, if_pos e2, e3, if_true]
  · rw [if_neg e]
    by_cases e4 : (i : Int) < k
    · have e5 : (i : Int) < k + 1 := by omega
      simp [adrV, e4, e5]
    · have e5 : ¬ (i : Int) < k + 1 := by omega
      simp [adrV, e4, e5]

theorem en69 : Enters Try.prog 69 := Enters.mk' (by kernel_rfl)

theorem rnumber_ok (v : Value) (b : List UInt8) (p n : Int) (w : World) (hb : IsSl u8E w v b) (h : 0 ≤ p ∧ 0 ≤ n ∧ n ≤ 4 ∧ p + n ≤ b.length) : Calls Try.prog 64 #[v, I p, I n] w (RetV w (I (numB ((b.take (p + n).toNat).drop p.toNat)).toNat)) := by
  have hbl := hb.le
  have hsm := numB_small b p n h
  refine enter0 15 Try.func64 rfl rfl (Nat.le_of_ble_eq_true rfl) ?_
  refine seq ?_
  refine region ?_
  refine cons (opv (Ev.assign (.c (v := I 0) rfl)) ?_)
  refine nil ?_
  refine pN ?_
  refine seq ?_
  refine region ?_
  refine cons (opv (Ev.move (.t rfl)) ?_)
  refine cons (opv (Ev.move (.t rfl)) ?_)
  refine cons (opv (Ev.move (.t rfl)) ?_)
  refine cons (opv (Ev.move (.t rfl)) ?_)
  refine cons (opv (Ev.add_i (.t rfl) (.t rfl) (fun _ => by omega)) ?_)
  refine cons (opv (Ev.slice Try.underlying27 ty5 (.t rfl) (.t rfl) (.t rfl) (by first | exact isSl_own (by repeat first | exact mH | apply mT | apply mA) | exact fun w I => IsSl.keep0 (by assumption) I.keeps) (fun _ => by omega)) ?_)
  refine cons (callv en69 (.cons (.t rfl) .nil) (fun w I => number_ok _ _ w (IsSl.sub (w := w) (by first | exact isSl_own (by repeat first | exact mH | apply mT | apply mA) w I | exact IsSl.keep0 (by assumption) I.keeps) (by omega) (by omega))) ?_)
  refine cons (opv (Ev.conv_u64_i Try.underlying3 Try.underlying66 (.t rfl) (fun _ => by omega)) ?_)
  refine cons (opv (Ev.assign (.t rfl)) ?_)
  refine nil ?_
  refine pN ?_
  refine ret ?_
  refine done rfl (.tmp rfl .nil) (retE ?_)
  rfl

theorem raddr_ok (v : Value) (b : List UInt8) (p : Int) (six : Bool) (w : World) (hb : IsSl u8E w v b) (h : 0 ≤ p ∧ p + (bif six then 16 else 4) ≤ b.length) : Calls Try.prog 68 #[v, I p, .bool six] w (RetV w (eAddr.val ⟨six, adrV b p (bif six then 16 else 4)⟩)) := by
  have hbl := hb.le
  refine enter0 28 Try.func68 rfl rfl (Nat.le_of_ble_eq_true rfl) ?_
  refine seq ?_
  refine region ?_
  refine cons (alloc z24 (fun b1 => ?_))
  refine nil ?_
  refine pN ?_
  refine seq ?_
  refine region ?_
  refine cons (opv (Ev.move (.t rfl)) ?_)
  refine cons (opv (Ev.buildS (fs := _) (places := [(0, 1), (1, 16)]) z24 rfl Try.underlying24 (by kernel_rfl) (.cons (.t rfl) .nil) (Fills.cons SAddr.l_v6 rfl Fills.nil)) ?_)
  refine cons (alloc z24 (fun b2 => ?_))
  refine cons (storeV ty24 (Lens.id _) (.t rfl) (.t rfl) (by repeat first | exact Upd.head | apply Upd.tail | apply Upd.right) ?_)
  refine nil ?_
  refine pN ?_
  refine seq ?_
  refine region ?_
  refine cons (opv (Ev.assign (.c (v := I 4) rfl)) ?_)
  refine nil ?_
  refine pN ?_
  refine cut (X := Int) (fun x : Int => (x = bif six then 16 else 4)) (fun x : Int => [(0, true, v), (1, true, I p), (6, true, .pointer (some ⟨b1, 0, none⟩)), (7, true, .pointer (some ⟨b2, 0, none⟩)), (8, true, I x)]) (fun x : Int => [Var b2 eAddr ⟨six, Vector.replicate 16 0⟩ 24, Var b1 eAddr eAddr.zero 24]) ?_ (fun x hx => ?_)
  · refine seq ?_
    refine region ?_
    refine cons (opv (Ev.move (.t rfl)) ?_)
    refine nil ?_
    refine pN ?_
    first | refine condD rfl (fun h0 => ?_) (fun h0 => ?_) | refine cond rfl (fun h0 => ?_) (fun h0 => ?_)
    · try simp only [Bool.and_eq_true, Bool.or_eq_true, Bool.or_eq_false_iff, Bool.and_eq_false_iff, Bool.not_eq_true', Bool.not_eq_false', decide_eq_true_eq, decide_eq_false_iff_not, Decidable.not_not] at h0
      refine region ?_
      refine cons (opv (Ev.assign (.c (v := I 16) rfl)) ?_)
      refine nil ?_
      refine pN ?_
      refine meet (X := Int) (_) ?_ (by repeat first | exact Sub.nil | refine Sub.cons rfl ?_) (by repeat first | exact sR | exact sN | apply sC | apply sS | apply sA)
      · try dsimp only
        rw [h0]; rfl
    · try simp only [Bool.and_eq_true, Bool.or_eq_true, Bool.or_eq_false_iff, Bool.and_eq_false_iff, Bool.not_eq_true', Bool.not_eq_false', decide_eq_true_eq, decide_eq_false_iff_not, Decidable.not_not] at h0
      refine skip ?_
      refine pN ?_
      refine meet (X := Int) (_) ?_ (by repeat first | exact Sub.nil | refine Sub.cons rfl ?_) (by repeat first | exact sR | exact sN | apply sC | apply sS | apply sA)
      · try dsimp only
        rw [h0]; rfl
  obtain ⟨n, rfl⟩ : ∃ y, y = x := ⟨x, rfl⟩
  have hn : n = bif six then 16 else 4 := hx
  clear hx
  show Sat _ _ [(0, true, v), (1, true, I p), (6, true, .pointer (some ⟨b1, 0, none⟩)), (7, true, .pointer (some ⟨b2, 0, none⟩)), (8, true, I n)] [Var b2 eAddr ⟨six, Vector.replicate 16 0⟩ 24, Var b1 eAddr eAddr.zero 24]
  have hn4 : n = 4 ∨ n = 16 := by rw [hn]; cases six <;> simp
  rw [← hn] at h ⊢
  refine seq ?_
  refine seq ?_
  refine region ?_
  refine cons (opv (Ev.assign (.c (v := I 0) rfl)) ?_)
  refine nil ?_
  refine pN ?_
  refine block ?_
  refine loop (X := Int × (Vector UInt8 16)) (fun x : Int × (Vector UInt8 16) => (0 ≤ x.1 ∧ x.1 ≤ n) ∧ (x.2 = adrV b p x.1)) (fun x : Int × (Vector UInt8 16) => [(0, true, v), (1, true, I p), (6, true, .pointer (some ⟨b1, 0, none⟩)), (7, true, .pointer (some ⟨b2, 0, none⟩)), (8, true, I n), (9, true, I x.1)]) (fun x : Int × (Vector UInt8 16) => [Var b2 eAddr ⟨six, x.2⟩ 24, Var b1 eAddr eAddr.zero 24]) (fun x : Int × (Vector UInt8 16) => (n - x.1).toNat) (0, _) ⟨?_, ?_⟩ (by repeat first | exact Sub.nil | refine Sub.cons rfl ?_) (by repeat first | exact sR | exact sN | apply sC | apply sS | apply sA) (fun x hx => ?_)
  · omega
  · exact (adrV_zero b p).symm
  obtain ⟨k, u⟩ := x
  obtain ⟨hk, hu⟩ : (0 ≤ k ∧ k ≤ n) ∧ (u = adrV b p k) := hx
  show Sat _ _ [(0, true, v), (1, true, I p), (6, true, .pointer (some ⟨b1, 0, none⟩)), (7, true, .pointer (some ⟨b2, 0, none⟩)), (8, true, I n), (9, true, I k)] [Var b2 eAddr ⟨six, u⟩ 24, Var b1 eAddr eAddr.zero 24]
  refine seq ?_
  refine seq ?_
  refine region ?_
  refine cons (opv (Ev.move (.t rfl)) ?_)
  refine cons (opv (Ev.move (.t rfl)) ?_)
  refine cons (opv (Ev.lss_i (.t rfl) (.t rfl)) ?_)
  refine nil ?_
  refine pN ?_
  first | refine condD rfl (fun hlt => ?_) (fun hge => ?_) | refine cond rfl (fun hlt => ?_) (fun hge => ?_)
  · try simp only [Bool.and_eq_true, Bool.or_eq_true, Bool.or_eq_false_iff, Bool.and_eq_false_iff, Bool.not_eq_true', Bool.not_eq_false', decide_eq_true_eq, decide_eq_false_iff_not, Decidable.not_not] at hlt
    refine skip ?_
    refine pN ?_
    refine seq ?_
    refine block ?_
    refine region ?_
    have hk16 : k.toNat < 16 := by omega
    refine cons (opv (Ev.move (.t rfl)) ?_)
    refine cons (opv (Ev.move (.t rfl)) ?_)
    refine cons (opv (Ev.move (.t rfl)) ?_)
    refine cons (opv (Ev.move (.t rfl)) ?_)
    refine cons (opv (Ev.add_i (.t rfl) (.t rfl) (fun _ => by omega)) ?_)
    refine cons (opv (Ev.indexAddr Try.underlying27 ty5 (.t rfl) (.t rfl) (by first | exact isSl_own (by repeat first | exact mH | apply mT | apply mA) | exact fun w I => IsSl.keep0 (by assumption) I.keeps) (fun _ => by omega)) ?_)
    refine cons (opv (Ev.loadS0 ty5 (.t rfl) (by first | exact isSl_own (by repeat first | exact mH | apply mT | apply mA) | exact fun w I => IsSl.keep0 (by assumption) I.keeps) (fun _ => by omega)) ?_)
    refine cons (opv (Ev.fieldAddr (o := 1) (.t rfl) (by kernel_rfl)) ?_)
    refine cons (opv (Ev.indexAddrA Try.underlying22 ty5 (.t rfl) (.t rfl) (fun _ => by omega)) ?_)
    refine cons (storeV ty5 (Lens.comp SAddr.l_b (lArr (n := 16) u8E _ (by omega))) (.t rfl) (.t rfl) (by repeat first | exact Upd.head | apply Upd.tail | apply Upd.right) ?_)
    refine nil ?_
    refine bN ?_
    refine pN ?_
    refine region ?_
    refine cons (opv (Ev.move (.t rfl)) ?_)
    refine cons (opv (Ev.add_i (.t rfl) (.c (v := I 1) rfl) (fun _ => by omega)) ?_)
    refine cons (opv (Ev.assign (.t rfl)) ?_)
    refine nil ?_
    refine pN ?_
    refine next (X := Int × (Vector UInt8 16)) (k + 1, _) ⟨?_, ?_⟩ ?_ (by repeat first | exact Sub.nil | refine Sub.cons rfl ?_) (by repeat first | exact sR | exact sN | apply sC | apply sS | apply sA)
    · try dsimp only
      omega
    · try dsimp only
      rw [hu]
      exact adrV_step b p k h.1 hk.1 (by omega) (by omega)
    · try dsimp only
      omega
  · try simp only [Bool.and_eq_true, Bool.or_eq_true, Bool.or_eq_false_iff, Bool.and_eq_false_iff, Bool.not_eq_true', Bool.not_eq_false', decide_eq_true_eq, decide_eq_false_iff_not, Decidable.not_not] at hge
    refine exit ?_
    refine pX ?_
    refine pX ?_
    refine bX ?_
    refine pN ?_
    refine seq ?_
    refine region ?_
    refine cons (opv (Ev.load ty24 (.t rfl) (ptsVar (by repeat first | exact mH | apply mT | apply mA) (Lens.id _))) ?_)
    refine cons (storeV ty24 (Lens.id _) (.t rfl) (.t rfl) (by repeat first | exact Upd.head | apply Upd.tail | apply Upd.right) ?_)
    refine nil ?_
    refine pN ?_
    refine ret ?_
    refine done rfl (.cell rfl (fun w I => run_loadVar_pts ty24 (ptsVar (by repeat first | exact mH | apply mT | apply mA) (Lens.id _) w I)) .nil) (retE ?_)
    have e : k = n := by omega
    rw [hu, e]; rfl
end Go.Proofs.Ytegcihhhighipaa
