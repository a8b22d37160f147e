/- packet -/
import Derived.Test.YtegcihhhighipaaP33
set_option linter.unusedVariables false
set_option linter.unusedSimpArgs false
namespace Go.Proofs.Ytegcihhhighipaa
open Go Go.Gx

theorem en23 : Enters Try.prog 23 := Enters.mk' (by kernel_rfl)

theorem PacketBits_walk (h : SHeader) (d : List UInt8) (w : World) (hd : IsSl u8E w h.data.v d) : Calls Try.prog 6 #[eHeader.val h] w (RetV w (.bool true)) := by
  have hdl := hd.le
  have hc := fit_check h ((d.take (min (d.length : Int) 100).toNat).drop 0)
  have hfd := checkH_len (fitH h) _ hc
  have hml := makeB_le (fitH h) (fitD h ((d.take (min (d.length : Int) 100).toNat).drop 0)) hc
  have hfc := frontN_cases h
  have mU : makeU (fitH h) (fitD h ((d.take (min (d.length : Int) 100).toNat).drop 0)) = makeB (fitH h) (fitD h ((d.take (min (d.length : Int) 100).toNat).drop 0)) := if_pos hc
  refine enter0 87 Try.func6 rfl rfl (Nat.le_of_ble_eq_true rfl) ?_
  refine seq ?_
  refine region ?_
  refine cons (box (E := eHeader) (.t rfl) (fun b1 => ?_))
  refine cons (opv (Ev.assign (.c (v := .bool false) rfl)) ?_)
  refine nil ?_
  refine pN ?_
  refine seq ?_
  refine seq ?_
  refine region ?_
  refine cons (callv en16 .nil (fun w I => works_ok w) ?_)
  refine cons (opv (Ev.not (.t rfl)) ?_)
  refine nil ?_
  refine pN ?_
  refine condF rfl (rfl) ?_
  refine skip ?_
  refine pN ?_
  refine seq ?_
  refine region ?_
  refine cons (opv (Ev.fieldAddr (o := 42) (.t rfl) (by kernel_rfl)) ?_)
  refine cons (opv (Ev.load ty27 (.t rfl) (ptsVar (by repeat first | exact mH | apply mT | apply mA) SHeader.l_data)) ?_)
  refine cons (opv (Ev.fieldAddr (o := 42) (.t rfl) (by kernel_rfl)) ?_)
  refine cons (opv (Ev.load ty27 (.t rfl) (ptsVar (by repeat first | exact mH | apply mT | apply mA) SHeader.l_data)) ?_)
  refine cons (opv (Ev.len Try.underlying27 (.t rfl) (fun w I => hd.keep0 I.keeps)) ?_)
  refine cons (opv (Ev.min_i (.t rfl) (.c (v := I 100) rfl)) ?_)
  refine cons (opv (Ev.to (v' := (OV.sub u8E.size h.data 0 (min (d.length : Int) 100).toNat).v) (Ev.sliceH Try.underlying27 ty5 (.t rfl) (.t rfl) (fun w I => hd.keep0 I.keeps) (fun _ => by omega)) (rfl)) ?_)
  refine cons (opv (Ev.fieldAddr (o := 42) (.t rfl) (by kernel_rfl)) ?_)
  refine cons (storeV ty27 SHeader.l_data (.t rfl) (.t rfl) (by repeat first | exact Upd.head | apply Upd.tail | apply Upd.right) ?_)
  refine nil ?_
  refine pN ?_
  refine seq ?_
  refine region ?_
  refine cons (opv (Ev.load ty29 (.t rfl) (ptsVar (by repeat first | exact mH | apply mT | apply mA) (Lens.id _))) ?_)
  refine cons (calln (X := OV) (fun _ : OV => True) (fun o => eHeader.val (wD (fitH h) o)) (fun o => [OwnS o.v u8E (fitD h ((d.take (min (d.length : Int) 100).toNat).drop 0)) 5]) en21 (.cons (.t rfl) .nil) (fun w I => rfit_ok (wD h (OV.sub u8E.size h.data 0 (min (d.length : Int) 100).toNat)) ((d.take (min (d.length : Int) 100).toNat).drop 0) w (IsSl.sub (hd.keep0 I.keeps) (by omega) (by omega))) (fun x1 _ => ?_))
  refine cons (storeV ty29 (Lens.id _) (.t rfl) (.t rfl) (by repeat first | exact Upd.head | apply Upd.tail | apply Upd.right) ?_)
  refine nil ?_
  refine pN ?_
  refine seq ?_
  refine region ?_
  refine cons (opv (Ev.load ty29 (.t rfl) (ptsVar (by repeat first | exact mH | apply mT | apply mA) (Lens.id _))) ?_)
  refine cons (calln (X := OV) (fun _ : OV => True) (fun o => .tuple #[o.v, I (checkH (fitH h) ((fitD h ((d.take (min (d.length : Int) 100).toNat).drop 0))).length)]) (fun o => [OwnS o.v u8E (makeU (fitH h) (fitD h ((d.take (min (d.length : Int) 100).toNat).drop 0))) 5]) en13 (.cons (.t rfl) .nil) (fun w I => make_u (wD (fitH h) x1) (fitD h ((d.take (min (d.length : Int) 100).toNat).drop 0)) w (isSl_own (by repeat first | exact mH | apply mT | apply mA) w I) (by omega)) (fun x2 _ => ?_))
  refine cons (opv (Ev.move (.t rfl)) ?_)
  refine cons (opv (Ev.extract (.t rfl) rfl) ?_)
  refine cons (opv (Ev.to (v' := I 0) (Ev.extract (.t rfl) rfl) (congrArg I hc)) ?_)
  refine cons (opv (Ev.assign (.t rfl)) ?_)
  refine cons (opv (Ev.assign (.t rfl)) ?_)
  refine nil ?_
  refine pN ?_
  refine seq ?_
  refine seq ?_
  refine region ?_
  rw [mU]
  refine cons (opv (Ev.move (.t rfl)) ?_)
  refine cons (opv (Ev.neq_i (.t rfl) (.c (v := I 0) rfl)) ?_)
  refine nil ?_
  refine pN ?_
  refine condF rfl (by simp) ?_
  refine skip ?_
  refine pN ?_
  refine seq ?_
  refine region ?_
  refine cons (opv (Ev.fieldAddr (o := 34) (.t rfl) (by kernel_rfl)) ?_)
  refine cons (opv (Ev.load ty5 (.t rfl) (ptsVar (by repeat first | exact mH | apply mT | apply mA) SHeader.l_proto)) ?_)
  refine cons (opv (Ev.eql_u8 (.t rfl) (.c (v := U8 6) rfl)) ?_)
  refine cons (opv (Ev.move (.t rfl)) ?_)
  refine cons (opg rfl rfl (Ev.fieldAddr (o := 34) (.t rfl) (by kernel_rfl)) ?_)
  refine cons (opg rfl rfl (Ev.load ty5 (.g rfl id) (ptsVar (by repeat first | exact mH | apply mT | apply mA) SHeader.l_proto)) ?_)
  refine cons (opg rfl rfl (Ev.eql_u8 (.g rfl id) (.c (v := U8 17) rfl)) ?_)
  refine cons (opv (Ev.pickO (.t rfl) (.c (v := .bool true) rfl) (fun {_} h => by cases h; rfl) ⟨_, rfl⟩ (by intro h1 h; first | (rw [h] <;> rfl) | (rw [h1, h] <;> rfl) | (rw [h, h1] <;> rfl) | simp_all)) ?_)
  refine cons (opv (Ev.assign (.t rfl)) ?_)
  refine nil ?_
  refine pN ?_
  refine seq ?_
  refine seq ?_
  refine region ?_
  refine cons (opv (Ev.assign (.c (v := I 0) rfl)) ?_)
  refine nil ?_
  refine pN ?_
  refine block ?_
  refine loop (X := Int) (fun x : Int => (0 ≤ x ∧ x ≤ 8 * (makeB (fitH h) (fitD h ((d.take (min (d.length : Int) 100).toNat).drop 0))).length)) (fun x : Int => [(1, true, .pointer (some ⟨b1, 0, none⟩)), (3, true, x2.v), (5, true, .bool (decide (h.proto = 6) || decide (h.proto = 17))), (6, true, I x)]) (fun x : Int => [OwnS x2.v u8E (makeB (fitH h) (fitD h ((d.take (min (d.length : Int) 100).toNat).drop 0))) 5, OwnS x1.v u8E (fitD h ((d.take (min (d.length : Int) 100).toNat).drop 0)) 5, Var b1 eHeader (wD (fitH h) x1) 29]) (fun x : Int => (8 * (makeB (fitH h) (fitD h ((d.take (min (d.length : Int) 100).toNat).drop 0))).length - x).toNat) (0) ?_ (by repeat first | exact Sub.nil | refine Sub.cons rfl ?_) (by repeat first | exact sR | exact sN | apply sC | apply sS | apply sA) (fun x hx => ?_)
  · omega
  obtain ⟨i, rfl⟩ : ∃ y, y = x := ⟨x, rfl⟩
  have hi : 0 ≤ i ∧ i ≤ 8 * (makeB (fitH h) (fitD h ((d.take (min (d.length : Int) 100).toNat).drop 0))).length := hx
  clear hx
  show Sat _ _ [(1, true, .pointer (some ⟨b1, 0, none⟩)), (3, true, x2.v), (5, true, .bool (decide (h.proto = 6) || decide (h.proto = 17))), (6, true, I i)] [OwnS x2.v u8E (makeB (fitH h) (fitD h ((d.take (min (d.length : Int) 100).toNat).drop 0))) 5, OwnS x1.v u8E (fitD h ((d.take (min (d.length : Int) 100).toNat).drop 0)) 5, Var b1 eHeader (wD (fitH h) x1) 29]
  refine seq ?_
  refine seq ?_
  refine region ?_
  refine cons (opv (Ev.move (.t rfl)) ?_)
  refine cons (opv (Ev.move (.t rfl)) ?_)
  refine cons (opv (Ev.len Try.underlying27 (.t rfl) (by first | exact isSl_own (by repeat first | exact mH | apply mT | apply mA) | exact fun w I => IsSl.keep0 (by assumption) I.keeps)) ?_)
  refine cons (opv (Ev.mul_i (.c (v := I 8) rfl) (.t rfl) (fun _ => by omega)) ?_)
  refine cons (opv (Ev.lss_i (.t rfl) (.t rfl)) ?_)
  refine nil ?_
  refine pN ?_
  first | refine condD rfl (fun hlt => ?_) (fun hge => ?_) | refine cond rfl (fun hlt => ?_) (fun hge => ?_)
  · try simp only [Bool.and_eq_true, Bool.or_eq_true, Bool.or_eq_false_iff, Bool.and_eq_false_iff, Bool.not_eq_true', Bool.not_eq_false', decide_eq_true_eq, decide_eq_false_iff_not, Decidable.not_not] at hlt
    refine skip ?_
    refine pN ?_
    refine seq ?_
    refine block ?_
    refine seq ?_
    refine drawR .head (by kernel_rfl) ?_
    have hi8 : 0 ≤ i / 8 ∧ i / 8 < (makeB (fitH h) (fitD h ((d.take (min (d.length : Int) 100).toNat).drop 0))).length ∧ 0 ≤ i % 8 ∧ i % 8 < 8 := by omega
    refine take 0 rfl (by kernel_rfl) (by kernel_rfl) (by kernel_rfl) (by repeat first | exact sR | exact sN | apply sC | apply sS | apply sA) (Ev.move (.t rfl)) ?_
    refine take 1 rfl (by kernel_rfl) (by kernel_rfl) (by kernel_rfl) (by repeat first | exact sR | exact sN | apply sC | apply sS | apply sA) (Ev.move (.t rfl)) ?_
    refine take 2 rfl (by kernel_rfl) (by kernel_rfl) (by kernel_rfl) (by repeat first | exact sR | exact sN | apply sC | apply sS | apply sA) (Ev.quo_n (.t rfl) (.c (v := I 8) rfl) (fun _ => by omega) (fun _ => by omega) (fun _ => by omega)) ?_
    refine take 5 rfl (by kernel_rfl) (by kernel_rfl) (by kernel_rfl) (by repeat first | exact sR | exact sN | apply sC | apply sS | apply sA) (Ev.move (.t rfl)) ?_
    refine take 6 rfl (by kernel_rfl) (by kernel_rfl) (by kernel_rfl) (by repeat first | exact sR | exact sN | apply sC | apply sS | apply sA) (Ev.rem_n (.t rfl) (.c (v := I 8) rfl) (fun _ => by omega) (fun _ => by omega)) ?_
    refine take 7 rfl (by kernel_rfl) (by kernel_rfl) (by kernel_rfl) (by repeat first | exact sR | exact sN | apply sC | apply sS | apply sA) (Ev.shr_u8 (.c (v := U8 128) rfl) (.t rfl) (fun _ => by omega)) ?_
    refine all [3] (by kernel_rfl) (by decide) (.cons rfl ?_ .nil)
    refine (opv (Ev.indexAddr Try.underlying27 ty5 (.t rfl) (.t rfl) (by first | exact isSl_own (by repeat first | exact mH | apply mT | apply mA) | exact fun w I => IsSl.keep0 (by assumption) I.keeps) (fun _ => by omega)) ?_)
    refine heldN_of (by repeat first | exact sR | exact sN | apply sC | apply sS | apply sA) ?_
    refine all [4] (by kernel_rfl) (by decide) (.cons rfl ?_ .nil)
    refine (opv (Ev.loadS0 ty5 (.t rfl) (by first | exact isSl_own (by repeat first | exact mH | apply mT | apply mA) | exact fun w I => IsSl.keep0 (by assumption) I.keeps) (fun _ => by omega)) ?_)
    refine heldN_of (by repeat first | exact sR | exact sN | apply sC | apply sS | apply sA) ?_
    refine all [8] (by kernel_rfl) (by decide) (.cons rfl ?_ .nil)
    refine (opv (Ev.xor_u8 (.t rfl) (.t rfl)) ?_)
    refine heldN_of (by repeat first | exact sR | exact sN | apply sC | apply sS | apply sA) ?_
    refine all [9] (by kernel_rfl) (by decide) (.cons rfl ?_ .nil)
    refine (opv (Ev.indexAddr Try.underlying27 ty5 (.t rfl) (.t rfl) (by first | exact isSl_own (by repeat first | exact mH | apply mT | apply mA) | exact fun w I => IsSl.keep0 (by assumption) I.keeps) (fun _ => by omega)) ?_)
    refine heldN_of (by repeat first | exact sR | exact sN | apply sC | apply sS | apply sA) ?_
    refine all [10] (by kernel_rfl) (by decide) (.cons rfl ?_ .nil)
    refine (storeS0 ty5 (.t rfl) (.t rfl) (by repeat first | exact Upd.head | apply Upd.tail | apply Upd.right) (by omega) ?_)
    refine heldN_of (by repeat first | exact sR | exact sN | apply sC | apply sS | apply sA) ?_
    refine over (by kernel_rfl) ?_
    refine pN ?_
    refine seq ?_
    refine region ?_
    refine cons (opv (Ev.move (.t rfl)) ?_)
    refine cons (calln (X := OV) (fun _ : OV => True) (fun o => .tuple #[eHeader.val (wD (readH ((makeB (fitH h) (fitD h ((d.take (min (d.length : Int) 100).toNat).drop 0))).set (i / 8).toNat ((makeB (fitH h) (fitD h ((d.take (min (d.length : Int) 100).toNat).drop 0))).getD (i / 8).toNat u8E.zero ^^^ shr8 128 (i % 8).toNat))) o), I (readN ((makeB (fitH h) (fitD h ((d.take (min (d.length : Int) 100).toNat).drop 0))).set (i / 8).toNat ((makeB (fitH h) (fitD h ((d.take (min (d.length : Int) 100).toNat).drop 0))).getD (i / 8).toNat u8E.zero ^^^ shr8 128 (i % 8).toNat))), I (readE ((makeB (fitH h) (fitD h ((d.take (min (d.length : Int) 100).toNat).drop 0))).set (i / 8).toNat ((makeB (fitH h) (fitD h ((d.take (min (d.length : Int) 100).toNat).drop 0))).getD (i / 8).toNat u8E.zero ^^^ shr8 128 (i % 8).toNat)))]) (fun o => [OwnS o.v u8E (readU ((makeB (fitH h) (fitD h ((d.take (min (d.length : Int) 100).toNat).drop 0))).set (i / 8).toNat ((makeB (fitH h) (fitD h ((d.take (min (d.length : Int) 100).toNat).drop 0))).getD (i / 8).toNat u8E.zero ^^^ shr8 128 (i % 8).toNat))) 5]) en22 (.cons (.t rfl) .nil) (fun w I => read_u _ ((makeB (fitH h) (fitD h ((d.take (min (d.length : Int) 100).toNat).drop 0))).set (i / 8).toNat ((makeB (fitH h) (fitD h ((d.take (min (d.length : Int) 100).toNat).drop 0))).getD (i / 8).toNat u8E.zero ^^^ shr8 128 (i % 8).toNat)) w (isSl_own (by repeat first | exact mH | apply mT | apply mA) w I)) (fun x3 _ => ?_))
    refine cons (opv (Ev.move (.t rfl)) ?_)
    refine cons (opv (Ev.extract (.t rfl) rfl) ?_)
    refine cons (opv (Ev.extract (.t rfl) rfl) ?_)
    refine cons (opv (Ev.extract (.t rfl) rfl) ?_)
    refine cons (alloc z29 (fun b2 => ?_))
    refine cons (storeV ty29 (Lens.id _) (.t rfl) (.t rfl) (by repeat first | exact Upd.head | apply Upd.tail | apply Upd.right) ?_)
    refine cons (opv (Ev.assign (.t rfl)) ?_)
    refine cons (opv (Ev.assign (.t rfl)) ?_)
    refine nil ?_
    refine pN ?_
    refine seq ?_
    refine seq ?_
    refine region ?_
    have hf4 : frontN ((Lens.id eHeader).get (wD (fitH h) x1)) = frontN h := rfl
    refine cons (opv (Ev.move (.t rfl)) ?_)
    refine cons (opv (Ev.eql_i (.t rfl) (.c (v := I 0) rfl)) ?_)
    refine cons (opv (Ev.move (.t rfl)) ?_)
    refine cons (opg rfl rfl (Ev.load ty29 (.t rfl) (ptsVar (by repeat first | exact mH | apply mT | apply mA) (Lens.id _))) ?_)
    refine cons (opg rfl rfl (Ev.load ty29 (.t rfl) (ptsVar (by repeat first | exact mH | apply mT | apply mA) (Lens.id _))) ?_)
    refine cons (callg rfl rfl en19 (.cons (.g rfl id) (.cons (.g rfl id) .nil)) (fun hg w I => same_ok (wD (readH ((makeB (fitH h) (fitD h ((d.take (min (d.length : Int) 100).toNat).drop 0))).set (i / 8).toNat ((makeB (fitH h) (fitD h ((d.take (min (d.length : Int) 100).toNat).drop 0))).getD (i / 8).toNat u8E.zero ^^^ shr8 128 (i % 8).toNat))) x3) (wD (fitH h) x1) (readU ((makeB (fitH h) (fitD h ((d.take (min (d.length : Int) 100).toNat).drop 0))).set (i / 8).toNat ((makeB (fitH h) (fitD h ((d.take (min (d.length : Int) 100).toNat).drop 0))).getD (i / 8).toNat u8E.zero ^^^ shr8 128 (i % 8).toNat))) (fitD h ((d.take (min (d.length : Int) 100).toNat).drop 0)) w (isSl_own (by repeat first | exact mH | apply mT | apply mA) w I) (isSl_own (by repeat first | exact mH | apply mT | apply mA) w I)) ?_)
    refine cons (opg rfl rfl (Ev.move (.g rfl id)) ?_)
    refine cons (opg rfl rfl (Ev.move (.t rfl)) ?_)
    refine cons (opg rfl rfl (Ev.move (.g rfl id)) ?_)
    refine cons (opg rfl rfl (Ev.move (.t rfl)) ?_)
    refine cons (opg rfl rfl (Ev.load ty29 (.t rfl) (ptsVar (by repeat first | exact mH | apply mT | apply mA) (Lens.id _))) ?_)
    refine cons (callg rfl rfl en23 (.cons (.g rfl id) .nil) (fun hg w I => rFront_ok _ w) ?_)
    refine cons (opg rfl rfl (Ev.mul_i (.c (v := I 8) rfl) (.g rfl id) (fun _ => by first | omega | (rename_i hg; simp at hg; omega))) ?_)
    refine cons (opg rfl rfl (Ev.geq_i (.g rfl id) (.g rfl id)) ?_)
    refine cons (opg rfl rfl (Ev.pickA (.g rfl id) (fun {_} h => by cases h; rfl) ⟨_, rfl⟩ (by intro h1 h; first | (rw [h] <;> rfl) | (rw [h1, h] <;> rfl) | (rw [h, h1] <;> rfl) | simp_all) (.c (v := .bool false) rfl)) ?_)
    refine cons (opg rfl rfl (Ev.pickO (.g rfl id) (.c (v := .bool true) rfl) (fun {_} h => by cases h; rfl) ⟨_, rfl⟩ (by intro h1 h; first | (rw [h] <;> rfl) | (rw [h1, h] <;> rfl) | (rw [h, h1] <;> rfl) | simp_all)) ?_)
    refine cons (opv (Ev.pickA (.t rfl) (fun {_} h => by cases h; rfl) ⟨_, rfl⟩ (by intro h1 h; first | (rw [h] <;> rfl) | (rw [h1, h] <;> rfl) | (rw [h, h1] <;> rfl) | simp_all) (.c (v := .bool false) rfl)) ?_)
    refine nil ?_
    refine pN ?_
    refine condF rfl (by
      have hb := bits_law (fitH h) (fitD h ((d.take (min (d.length : Int) 100).toNat).drop 0)) hc (i / 8).toNat (i % 8).toNat (by omega) (by omega) x3 x1
      cases hE : decide (readE ((makeB (fitH h) (fitD h ((d.take (min (d.length : Int) 100).toNat).drop 0))).set (i / 8).toNat ((makeB (fitH h) (fitD h ((d.take (min (d.length : Int) 100).toNat).drop 0))).getD (i / 8).toNat u8E.zero ^^^ shr8 128 (i % 8).toNat)) = 0) with
      | false => simp at hE; simp [hE]
      | true =>
        have hE2 : readE ((makeB (fitH h) (fitD h ((d.take (min (d.length : Int) 100).toNat).drop 0))).set (i / 8).toNat ((makeB (fitH h) (fitD h ((d.take (min (d.length : Int) 100).toNat).drop 0))).getD (i / 8).toNat u8E.zero ^^^ shr8 128 (i % 8).toNat)) = 0 := of_decide_eq_true hE
        obtain ⟨hs, hm⟩ := hb hE2
        have hs2 : sameB (wD (readH ((makeB (fitH h) (fitD h ((d.take (min (d.length : Int) 100).toNat).drop 0))).set (i / 8).toNat ((makeB (fitH h) (fitD h ((d.take (min (d.length : Int) 100).toNat).drop 0))).getD (i / 8).toNat u8E.zero ^^^ shr8 128 (i % 8).toNat))) x3) (wD (fitH h) x1) (readU ((makeB (fitH h) (fitD h ((d.take (min (d.length : Int) 100).toNat).drop 0))).set (i / 8).toNat ((makeB (fitH h) (fitD h ((d.take (min (d.length : Int) 100).toNat).drop 0))).getD (i / 8).toNat u8E.zero ^^^ shr8 128 (i % 8).toNat))) (fitD h ((d.take (min (d.length : Int) 100).toNat).drop 0)) = false := hs
        rw [hs2]
        by_cases h6 : h.proto = 6 ∨ h.proto = 17
        · have hm2 : midN (fitH h).proto ≠ 0 := by
            show midN h.proto ≠ 0
            rcases h6 with e | e <;> rw [e] <;> decide
          have hf2 : ¬ (frontN h ≤ (i / 8).toNat) := fun k => hm ⟨hm2, k⟩
          have hf3 : ¬ (8 * frontN h ≤ i) := by omega
          rw [hf4]
          simp [hf3]
        · have h61 : ¬ h.proto = 6 := fun k => h6 (.inl k)
          have h62 : ¬ h.proto = 17 := fun k => h6 (.inr k)
          have e1 : SHeader.l_proto.get (wD (fitH h) x1) = h.proto := rfl
          try rw [e1]
          simp [h61, h62]) ?_
    refine skip ?_
    refine pN ?_
    refine drawR (.tail (.tail .head)) (by kernel_rfl) ?_
    have hsl : ((makeB (fitH h) (fitD h ((d.take (min (d.length : Int) 100).toNat).drop 0))).set (i / 8).toNat ((makeB (fitH h) (fitD h ((d.take (min (d.length : Int) 100).toNat).drop 0))).getD (i / 8).toNat u8E.zero ^^^ shr8 128 (i % 8).toNat)).length = (makeB (fitH h) (fitD h ((d.take (min (d.length : Int) 100).toNat).drop 0))).length := List.length_set
    refine take 0 rfl (by kernel_rfl) (by kernel_rfl) (by kernel_rfl) (by repeat first | exact sR | exact sN | apply sC | apply sS | apply sA) (Ev.move (.t rfl)) ?_
    refine take 1 rfl (by kernel_rfl) (by kernel_rfl) (by kernel_rfl) (by repeat first | exact sR | exact sN | apply sC | apply sS | apply sA) (Ev.move (.t rfl)) ?_
    refine take 2 rfl (by kernel_rfl) (by kernel_rfl) (by kernel_rfl) (by repeat first | exact sR | exact sN | apply sC | apply sS | apply sA) (Ev.quo_n (.t rfl) (.c (v := I 8) rfl) (fun _ => by omega) (fun _ => by omega) (fun _ => by omega)) ?_
    refine take 5 rfl (by kernel_rfl) (by kernel_rfl) (by kernel_rfl) (by repeat first | exact sR | exact sN | apply sC | apply sS | apply sA) (Ev.move (.t rfl)) ?_
    refine take 6 rfl (by kernel_rfl) (by kernel_rfl) (by kernel_rfl) (by repeat first | exact sR | exact sN | apply sC | apply sS | apply sA) (Ev.rem_n (.t rfl) (.c (v := I 8) rfl) (fun _ => by omega) (fun _ => by omega)) ?_
    refine take 7 rfl (by kernel_rfl) (by kernel_rfl) (by kernel_rfl) (by repeat first | exact sR | exact sN | apply sC | apply sS | apply sA) (Ev.shr_u8 (.c (v := U8 128) rfl) (.t rfl) (fun _ => by omega)) ?_
    refine all [3] (by kernel_rfl) (by decide) (.cons rfl ?_ .nil)
    refine (opv (Ev.indexAddr Try.underlying27 ty5 (.t rfl) (.t rfl) (by first | exact isSl_own (by repeat first | exact mH | apply mT | apply mA) | exact fun w I => IsSl.keep0 (by assumption) I.keeps) (fun _ => by omega)) ?_)
    refine heldN_of (by repeat first | exact sR | exact sN | apply sC | apply sS | apply sA) ?_
    refine all [4] (by kernel_rfl) (by decide) (.cons rfl ?_ .nil)
    refine (opv (Ev.loadS0 ty5 (.t rfl) (by first | exact isSl_own (by repeat first | exact mH | apply mT | apply mA) | exact fun w I => IsSl.keep0 (by assumption) I.keeps) (fun _ => by omega)) ?_)
    refine heldN_of (by repeat first | exact sR | exact sN | apply sC | apply sS | apply sA) ?_
    refine all [8] (by kernel_rfl) (by decide) (.cons rfl ?_ .nil)
    refine (opv (Ev.xor_u8 (.t rfl) (.t rfl)) ?_)
    refine heldN_of (by repeat first | exact sR | exact sN | apply sC | apply sS | apply sA) ?_
    refine all [9] (by kernel_rfl) (by decide) (.cons rfl ?_ .nil)
    refine (opv (Ev.indexAddr Try.underlying27 ty5 (.t rfl) (.t rfl) (by first | exact isSl_own (by repeat first | exact mH | apply mT | apply mA) | exact fun w I => IsSl.keep0 (by assumption) I.keeps) (fun _ => by omega)) ?_)
    refine heldN_of (by repeat first | exact sR | exact sN | apply sC | apply sS | apply sA) ?_
    refine all [10] (by kernel_rfl) (by decide) (.cons rfl ?_ .nil)
    refine (storeS0 ty5 (.t rfl) (.t rfl) (by repeat first | exact Upd.head | apply Upd.tail | apply Upd.right) (by omega) ?_)
    refine heldN_of (by repeat first | exact sR | exact sN | apply sC | apply sS | apply sA) ?_
    refine over (by kernel_rfl) ?_
    refine bN ?_
    refine pN ?_
    refine region ?_
    rw [bit_back (makeB (fitH h) (fitD h ((d.take (min (d.length : Int) 100).toNat).drop 0))) (i / 8).toNat (shr8 128 (i % 8).toNat) (by omega)]
    refine cons (opv (Ev.move (.t rfl)) ?_)
    refine cons (opv (Ev.add_i (.t rfl) (.c (v := I 1) rfl) (fun _ => by omega)) ?_)
    refine cons (opv (Ev.assign (.t rfl)) ?_)
    refine nil ?_
    refine pN ?_
    refine next (X := Int) (i + 1) ?_ ?_ (by repeat first | exact Sub.nil | refine Sub.cons rfl ?_) (by repeat first | exact sR | exact sN | apply sC | apply sS | apply sA)
    · try dsimp only
      omega
    · try dsimp only
      omega
  · try simp only [Bool.and_eq_true, Bool.or_eq_true, Bool.or_eq_false_iff, Bool.and_eq_false_iff, Bool.not_eq_true', Bool.not_eq_false', decide_eq_true_eq, decide_eq_false_iff_not, Decidable.not_not] at hge
    refine exit ?_
    refine pX ?_
    refine pX ?_
    refine bX ?_
    refine pN ?_
    refine seq ?_
    refine region ?_
    refine cons (opv (Ev.assign (.c (v := .bool true) rfl)) ?_)
    refine nil ?_
    refine pN ?_
    refine ret ?_
    refine done rfl (.tmp rfl .nil) (retE ?_)
    rfl
end Go.Proofs.Ytegcihhhighipaa
