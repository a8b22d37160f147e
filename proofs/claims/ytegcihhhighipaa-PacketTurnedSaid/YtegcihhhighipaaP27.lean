/- packet -/
import Derived.Test.YtegcihhhighipaaP26
set_option linter.unusedVariables false
set_option linter.unusedSimpArgs false
namespace Go.Proofs.Ytegcihhhighipaa
open Go Go.Gx

theorem en21 : Enters Try.prog 21 := Enters.mk' (by kernel_rfl)

theorem en25 : Enters Try.prog 25 := Enters.mk' (by kernel_rfl)

theorem en23 : Enters Try.prog 23 := Enters.mk' (by kernel_rfl)

theorem en26 : Enters Try.prog 26 := Enters.mk' (by kernel_rfl)

theorem PacketTurned_walk (h : SHeader) (v : Value) (d : List UInt8) (ts : List SLaw16Turn) (w : World) (hd : IsSl u8E w h.data.v d) (ht : IsSl eLaw16Turn w v ts) (hm : ∀ i, i < ts.length → ∃ m, IsSl u8E w (ts.getD i eLaw16Turn.zero).more.v m) : Calls Try.prog 8 #[eHeader.val h, v] w (RetV w (.bool true)) := by
  have htl := ht.le
  have hml := makeB_le (fitH h) (fitD h d) (fit_check h d)
  refine enter0 66 Try.func8 rfl rfl (Nat.le_of_ble_eq_true rfl) ?_
  refine seq ?_
  refine region ?_
  refine cons (box (E := eHeader) (.t rfl) (fun b1 => ?_))
  refine cons (opv (Ev.assign (.c (v := .bool false) rfl)) ?_)
  refine nil ?_
  refine pN ?_
  refine seq ?_
  refine region ?_
  refine cons (opv (Ev.load ty29 (.t rfl) (ptsVar (by repeat first | exact mH | apply mT | apply mA) (Lens.id _))) ?_)
  refine cons (calln (X := OV) (fun _ : OV => True) (fun o => eHeader.val (wD (fitH h) o)) (fun o => [OwnS o.v u8E (fitD h d) 5]) en21 (.cons (.t rfl) .nil) (fun w I => rfit_ok h d w (hd.keep0 I.keeps)) (fun x1 _ => ?_))
  refine cons (storeV ty29 (Lens.id _) (.t rfl) (.t rfl) (by repeat first | exact Upd.head | apply Upd.tail | apply Upd.right) ?_)
  refine nil ?_
  refine pN ?_
  refine seq ?_
  refine region ?_
  refine cons (opv (Ev.load ty29 (.t rfl) (ptsVar (by repeat first | exact mH | apply mT | apply mA) (Lens.id _))) ?_)
  refine cons (callo en17 (.cons (.t rfl) .nil) (fun w I => rmake_ok (wD (fitH h) x1) (fitD h d) w (isSl_own (by repeat first | exact mH | apply mT | apply mA) w I) (fit_check h d)) (fun v2 => ?_))
  refine cons (opv (Ev.move (.t rfl)) ?_)
  refine cons (calln (X := OV × List UInt8) (fun x => x.2.length ≤ (makeB (fitH h) (fitD h d)).length + 240) (fun x => x.1.v) (fun x => [OwnS x.1.v u8E x.2 5]) en25 (.cons (.t rfl) (.cons (.t rfl) .nil)) (fun w I => turned_ok _ _ (makeB (fitH h) (fitD h d)) ts w (isSl_own (by repeat first | exact mH | apply mT | apply mA) w I) (ht.keep0 I.keeps) (fun i hi => (hm i hi).imp fun m h => h.keep0 I.keeps) (by omega)) (fun x hx => ?_))
  obtain ⟨p, xs⟩ := x
  have hxl : xs.length ≤ (makeB (fitH h) (fitD h d)).length + 240 := hx
  show Sat _ _ _ (OwnS p.v u8E xs 5 :: _)
  refine cons (opv (Ev.assign (.t rfl)) ?_)
  refine nil ?_
  refine pN ?_
  refine seq ?_
  refine seq ?_
  refine region ?_
  refine cons (opv (Ev.move (.t rfl)) ?_)
  refine cons (callv en24 (.cons (.t rfl) .nil) (fun w I => readlaw_ok _ xs w (isSl_own (by repeat first | exact mH | apply mT | apply mA) w I) (by omega)) ?_)
  refine cons (opv (Ev.not (.t rfl)) ?_)
  refine nil ?_
  refine pN ?_
  refine condF rfl (rfl) ?_
  refine skip ?_
  refine pN ?_
  refine seq ?_
  refine region ?_
  refine cons (opv (Ev.assign (.c (v := .bool false) rfl)) ?_)
  refine nil ?_
  refine pN ?_
  refine seq ?_
  refine seq ?_
  refine region ?_
  refine cons (opv (Ev.assign (.c (v := I 0) rfl)) ?_)
  refine nil ?_
  refine pN ?_
  refine block ?_
  refine loop (X := Int × Bool) (fun x : Int × Bool => (0 ≤ x.1 ∧ x.1 ≤ ts.length)) (fun x : Int × Bool => [(1, true, v), (2, true, .pointer (some ⟨b1, 0, none⟩)), (5, true, p.v), (6, true, .bool x.2), (7, true, I x.1)]) (fun x : Int × Bool => [OwnS p.v u8E xs 5, OwnS x1.v u8E (fitD h d) 5, Var b1 eHeader (wD (fitH h) x1) 29]) (fun x : Int × Bool => (ts.length - x.1).toNat) (0, false) ?_ (by repeat first | exact Sub.nil | refine Sub.cons rfl ?_) (by repeat first | exact sR | exact sN | apply sC | apply sS | apply sA) (fun x hx => ?_)
  · omega
  obtain ⟨i, r⟩ := x
  have hi : 0 ≤ i ∧ i ≤ ts.length := hx
  clear hx
  show Sat _ _ [(1, true, v), (2, true, .pointer (some ⟨b1, 0, none⟩)), (5, true, p.v), (6, true, .bool r), (7, true, I i)] [OwnS p.v u8E xs 5, OwnS x1.v u8E (fitD h d) 5, Var b1 eHeader (wD (fitH h) x1) 29]
  refine seq ?_
  refine seq ?_
  refine region ?_
  refine cons (opv (Ev.move (.t rfl)) ?_)
  refine cons (opv (Ev.move (.t rfl)) ?_)
  refine cons (opv (Ev.len Try.underlying47 (.t rfl) (by first | exact isSl_own (by repeat first | exact mH | apply mT | apply mA) | exact fun w I => IsSl.keep0 (by assumption) I.keeps)) ?_)
  refine cons (opv (Ev.lss_i (.t rfl) (.t rfl)) ?_)
  refine nil ?_
  refine pN ?_
  first | refine condD rfl (fun h1 => ?_) (fun h1 => ?_) | refine cond rfl (fun h1 => ?_) (fun h1 => ?_)
  · try simp only [Bool.and_eq_true, Bool.or_eq_true, Bool.or_eq_false_iff, Bool.and_eq_false_iff, Bool.not_eq_true', Bool.not_eq_false', decide_eq_true_eq, decide_eq_false_iff_not, Decidable.not_not] at h1
    refine skip ?_
    refine pN ?_
    refine seq ?_
    refine block ?_
    refine region ?_
    refine cons (opv (Ev.move (.t rfl)) ?_)
    refine cons (opv (Ev.move (.t rfl)) ?_)
    refine cons (opg rfl rfl (Ev.move (.t rfl)) ?_)
    refine cons (opg rfl rfl (Ev.move (.t rfl)) ?_)
    refine cons (opg rfl rfl (Ev.indexAddr Try.underlying47 ty50 (.g rfl id) (.g rfl id) (by first | exact isSl_own (by repeat first | exact mH | apply mT | apply mA) | exact fun w I => IsSl.keep0 (by assumption) I.keeps) (fun _ => by first | omega | (rename_i hg; simp at hg; omega))) ?_)
    refine cons (opg rfl rfl (Ev.fieldAddrS (o := 4) (i := i) (.g rfl id) (by first | exact isSl_own (by repeat first | exact mH | apply mT | apply mA) | exact fun w I => IsSl.keep0 (by assumption) I.keeps) (fun _ => by first | omega | (rename_i hg; simp at hg; omega)) (by kernel_rfl)) ?_)
    refine cons (opg rfl rfl (Ev.loadS ty4 SLaw16Turn.l_sums rfl (.g rfl id) (by first | exact isSl_own (by repeat first | exact mH | apply mT | apply mA) | exact fun w I => IsSl.keep0 (by assumption) I.keeps) (fun _ => by first | omega | (rename_i hg; simp at hg; omega))) ?_)
    refine cons (opv (Ev.pickO (.t rfl) (.c (v := .bool true) rfl) (fun {_} h => by cases h; rfl) ⟨_, rfl⟩ (by intro h1 h; first | (rw [h] <;> rfl) | (rw [h1, h] <;> rfl) | (rw [h, h1] <;> rfl) | simp_all)) ?_)
    refine cons (opv (Ev.assign (.t rfl)) ?_)
    refine nil ?_
    refine bN ?_
    refine pN ?_
    refine region ?_
    refine cons (opv (Ev.move (.t rfl)) ?_)
    refine cons (opv (Ev.add_i (.t rfl) (.c (v := I 1) rfl) (fun _ => by omega)) ?_)
    refine cons (opv (Ev.assign (.t rfl)) ?_)
    refine nil ?_
    refine pN ?_
    refine next (X := Int × Bool) (i + 1, _) ?_ ?_ (by repeat first | exact Sub.nil | refine Sub.cons rfl ?_) (by repeat first | exact sR | exact sN | apply sC | apply sS | apply sA)
    · try dsimp only
      omega
    · try dsimp only
      omega
  · try simp only [Bool.and_eq_true, Bool.or_eq_true, Bool.or_eq_false_iff, Bool.and_eq_false_iff, Bool.not_eq_true', Bool.not_eq_false', decide_eq_true_eq, decide_eq_false_iff_not, Decidable.not_not] at h1
    refine exit ?_
    refine pX ?_
    refine pX ?_
    refine bX ?_
    refine pN ?_
    refine seq ?_
    refine seq ?_
    refine region ?_
    refine cons (opv (Ev.move (.t rfl)) ?_)
    refine cons (opv (Ev.not (.t rfl)) ?_)
    refine nil ?_
    refine pN ?_
    first | refine condD rfl (fun h2 => ?_) (fun h2 => ?_) | refine cond rfl (fun h2 => ?_) (fun h2 => ?_)
    · try simp only [Bool.and_eq_true, Bool.or_eq_true, Bool.or_eq_false_iff, Bool.and_eq_false_iff, Bool.not_eq_true', Bool.not_eq_false', decide_eq_true_eq, decide_eq_false_iff_not, Decidable.not_not] at h2
      refine seq ?_
      refine region ?_
      refine cons (callv en16 .nil (fun w I => works_ok w) ?_)
      refine cons (opv (Ev.assign (.t rfl)) ?_)
      refine nil ?_
      refine pN ?_
      refine ret ?_
      refine pR ?_
      refine done rfl (.tmp rfl .nil) (retE ?_)
      rfl
    · try simp only [Bool.and_eq_true, Bool.or_eq_true, Bool.or_eq_false_iff, Bool.and_eq_false_iff, Bool.not_eq_true', Bool.not_eq_false', decide_eq_true_eq, decide_eq_false_iff_not, Decidable.not_not] at h2
      refine skip ?_
      refine pN ?_
      refine seq ?_
      refine region ?_
      refine cons (opv (Ev.load ty29 (.t rfl) (ptsVar (by repeat first | exact mH | apply mT | apply mA) (Lens.id _))) ?_)
      refine cons (callv en23 (.cons (.t rfl) .nil) (fun w I => rFront_ok _ w) ?_)
      refine cons (opv (Ev.assign (.t rfl)) ?_)
      refine nil ?_
      refine pN ?_
      refine cut (X := (List UInt8)) (fun x : (List UInt8) => (x.length = xs.length)) (fun x : (List UInt8) => [(5, true, p.v)]) (fun x : (List UInt8) => [OwnS p.v u8E x 5, Var b1 eHeader (wD (fitH h) x1) 29]) ?_ (fun x hx => ?_)
      · refine seq ?_
        refine region ?_
        refine cons (opv (Ev.move (.t rfl)) ?_)
        refine cons (opv (Ev.eql_i (.t rfl) (.c (v := I 20) rfl)) ?_)
        refine cons (opv (Ev.move (.t rfl)) ?_)
        refine cons (opg rfl rfl (Ev.move (.t rfl)) ?_)
        refine cons (opg rfl rfl (Ev.len Try.underlying27 (.g rfl id) (by first | exact isSl_own (by repeat first | exact mH | apply mT | apply mA) | exact fun w I => IsSl.keep0 (by assumption) I.keeps)) ?_)
        refine cons (opg rfl rfl (Ev.geq_i (.g rfl id) (.c (v := I 20) rfl)) ?_)
        refine cons (opv (Ev.pickA (.t rfl) (fun {_} h => by cases h; rfl) ⟨_, rfl⟩ (by intro h1 h; first | (rw [h] <;> rfl) | (rw [h1, h] <;> rfl) | (rw [h, h1] <;> rfl) | simp_all) (.c (v := .bool false) rfl)) ?_)
        refine nil ?_
        refine pN ?_
        first | refine condD rfl (fun h3 => ?_) (fun h3 => ?_) | refine cond rfl (fun h3 => ?_) (fun h3 => ?_)
        · try simp only [Bool.and_eq_true, Bool.or_eq_true, Bool.or_eq_false_iff, Bool.and_eq_false_iff, Bool.not_eq_true', Bool.not_eq_false', decide_eq_true_eq, decide_eq_false_iff_not, Decidable.not_not] at h3
          have h20 : 20 ≤ xs.length := by have := h3.2; omega
          refine seq ?_
          refine region ?_
          refine cons (opv (Ev.move (.t rfl)) ?_)
          refine cons (opv (Ev.indexAddr Try.underlying27 ty5 (.t rfl) (.c (v := I 10) rfl) (by first | exact isSl_own (by repeat first | exact mH | apply mT | apply mA) | exact fun w I => IsSl.keep0 (by assumption) I.keeps) (fun _ => by omega)) ?_)
          refine cons (storeS0 (i := 10) ty5 (.t rfl) (.c (v := U8 0) rfl) (by repeat first | exact Upd.head | apply Upd.tail | apply Upd.right) (by omega) ?_)
          refine nil ?_
          refine pN ?_
          refine seq ?_
          refine region ?_
          refine cons (opv (Ev.move (.t rfl)) ?_)
          refine cons (opv (Ev.indexAddr Try.underlying27 ty5 (.t rfl) (.c (v := I 11) rfl) (by first | exact isSl_own (by repeat first | exact mH | apply mT | apply mA) | exact fun w I => IsSl.keep0 (by assumption) I.keeps) (fun _ => by simp only [List.length_set]; omega)) ?_)
          refine cons (storeS0 (i := 11) ty5 (.t rfl) (.c (v := U8 0) rfl) (by repeat first | exact Upd.head | apply Upd.tail | apply Upd.right) (by simp only [List.length_set]; omega) ?_)
          refine nil ?_
          refine pN ?_
          refine seq ?_
          refine region ?_
          refine cons (opv (Ev.move (.t rfl)) ?_)
          refine cons (opv (Ev.sliceH Try.underlying27 ty5 (.t rfl) (.c (v := I 20) rfl) (by first | exact isSl_own (by repeat first | exact mH | apply mT | apply mA) | exact fun w I => IsSl.keep0 (by assumption) I.keeps) (fun _ => by simp only [List.length_set]; omega)) ?_)
          refine cons (calln (X := UInt16) (fun _ => True) (fun s => U16 s) (fun _ => []) en26 (.cons (.t rfl) .nil) (fun w I => lawsum_ok _ _ w (IsSl.sub (isSl_own (by repeat first | exact mH | apply mT | apply mA) w I) (by simp) (by simp; omega)) (by simp; omega)) (fun s _ => ?_))
          refine cons (opv (Ev.assign (.t rfl)) ?_)
          refine nil ?_
          refine pN ?_
          refine seq ?_
          refine region ?_
          refine cons (opv (Ev.move (.t rfl)) ?_)
          refine cons (opv (Ev.move (.t rfl)) ?_)
          refine cons (opv (Ev.shr_u16 (.t rfl) (.c rfl) (fun _ => by decide)) ?_)
          refine cons (opv (Ev.conv_u16_u8 Try.underlying5 Try.underlying25 (.t rfl)) ?_)
          refine cons (opv (Ev.indexAddr Try.underlying27 ty5 (.t rfl) (.c (v := I 10) rfl) (by first | exact isSl_own (by repeat first | exact mH | apply mT | apply mA) | exact fun w I => IsSl.keep0 (by assumption) I.keeps) (fun _ => by simp only [List.length_set]; omega)) ?_)
          refine cons (storeS0 (i := 10) ty5 (.t rfl) (.t rfl) (by repeat first | exact Upd.head | apply Upd.tail | apply Upd.right) (by simp only [List.length_set]; omega) ?_)
          refine nil ?_
          refine pN ?_
          refine region ?_
          refine cons (opv (Ev.move (.t rfl)) ?_)
          refine cons (opv (Ev.move (.t rfl)) ?_)
          refine cons (opv (Ev.conv_u16_u8 Try.underlying5 Try.underlying25 (.t rfl)) ?_)
          refine cons (opv (Ev.indexAddr Try.underlying27 ty5 (.t rfl) (.c (v := I 11) rfl) (by first | exact isSl_own (by repeat first | exact mH | apply mT | apply mA) | exact fun w I => IsSl.keep0 (by assumption) I.keeps) (fun _ => by simp only [List.length_set]; omega)) ?_)
          refine cons (storeS0 (i := 11) ty5 (.t rfl) (.t rfl) (by repeat first | exact Upd.head | apply Upd.tail | apply Upd.right) (by simp only [List.length_set]; omega) ?_)
          refine nil ?_
          refine pN ?_
          refine meet (X := (List UInt8)) (_) ?_ (by repeat first | exact Sub.nil | refine Sub.cons rfl ?_) (by repeat first | exact sR | exact sN | apply sC | apply sS | apply sA)
          · try dsimp only
            all_goals simp
        · try simp only [Bool.and_eq_true, Bool.or_eq_true, Bool.or_eq_false_iff, Bool.and_eq_false_iff, Bool.not_eq_true', Bool.not_eq_false', decide_eq_true_eq, decide_eq_false_iff_not, Decidable.not_not] at h3
          refine skip ?_
          refine pN ?_
          refine meet (X := (List UInt8)) (_) ?_ (by repeat first | exact Sub.nil | refine Sub.cons rfl ?_) (by repeat first | exact sR | exact sN | apply sC | apply sS | apply sA)
          · try dsimp only
            all_goals simp
      obtain ⟨ys, rfl⟩ : ∃ y, y = x := ⟨x, rfl⟩
      have hyl : ys.length = xs.length := hx
      clear hx
      show Sat _ _ [(5, true, p.v)] [OwnS p.v u8E ys 5, Var b1 eHeader (wD (fitH h) x1) 29]
      refine seq ?_
      refine region ?_
      refine cons (opv (Ev.move (.t rfl)) ?_)
      refine cons (callv en24 (.cons (.t rfl) .nil) (fun w I => readlaw_ok _ ys w (isSl_own (by repeat first | exact mH | apply mT | apply mA) w I) (by omega)) ?_)
      refine cons (opv (Ev.move (.t rfl)) ?_)
      refine cons (callg rfl rfl en16 .nil (fun hg w I => works_ok w) ?_)
      refine cons (opv (Ev.pickA (.t rfl) (fun {_} h => by cases h; rfl) ⟨_, rfl⟩ (by intro h1 h; first | (rw [h] <;> rfl) | (rw [h1, h] <;> rfl) | (rw [h, h1] <;> rfl) | simp_all) (.c (v := .bool false) rfl)) ?_)
      refine cons (opv (Ev.assign (.t rfl)) ?_)
      refine nil ?_
      refine pN ?_
      refine ret ?_
      refine done rfl (.tmp rfl .nil) (retE ?_)
      rfl
end Go.Proofs.Ytegcihhhighipaa
