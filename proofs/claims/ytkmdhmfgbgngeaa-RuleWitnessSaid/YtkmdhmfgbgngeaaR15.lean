/- rule -/
import Derived.Test.YtkmdhmfgbgngeaaR13
set_option linter.unusedVariables false
set_option linter.unusedSimpArgs false
namespace Go.Proofs.Ytkmdhmfgbgngeaa
open Go Go.Gx

theorem sameInts_ok (u v : Value) (a b : List Int) (w : World) (ha : IsSl iE w u a) (hb : IsSl iE w v b) : Calls Try.prog 23 #[u, v] w (RetV w (.bool (decide (a = b)))) := by
  have hal := ha.le
  have hbl := hb.le
  refine enter0 26 Try.func23 rfl rfl (Nat.le_of_ble_eq_true rfl) ?_
  refine seq ?_
  refine region ?_
  refine cons (opv (Ev.assign (.c (v := .bool false) rfl)) ?_)
  refine nil ?_
  refine pN ?_
  refine seq ?_
  refine seq ?_
  refine region ?_
  refine cons (opv (Ev.move (.t rfl)) ?_)
  refine cons (opv (Ev.len Try.underlying46 (.t rfl) (by first | exact isSl_own (by repeat first | exact mH | apply mT | apply mA) | exact fun w I => IsSl.keep0 (by assumption) I.keeps)) ?_)
  refine cons (opv (Ev.move (.t rfl)) ?_)
  refine cons (opv (Ev.len Try.underlying46 (.t rfl) (by first | exact isSl_own (by repeat first | exact mH | apply mT | apply mA) | exact fun w I => IsSl.keep0 (by assumption) I.keeps)) ?_)
  refine cons (opv (Ev.neq_i (.t rfl) (.t rfl)) ?_)
  refine nil ?_
  refine pN ?_
  first | refine condD rfl (fun hne => ?_) (fun hlen => ?_) | refine cond rfl (fun hne => ?_) (fun hlen => ?_)
  · try simp only [Bool.and_eq_true, Bool.or_eq_true, Bool.or_eq_false_iff, Bool.and_eq_false_iff, Bool.not_eq_true', Bool.not_eq_false', decide_eq_true_eq, decide_eq_false_iff_not, Decidable.not_not] at hne
    refine seq ?_
    refine region ?_
    refine cons (opv (Ev.assign (.c (v := .bool false) rfl)) ?_)
    refine nil ?_
    refine pN ?_
    refine ret ?_
    refine pR ?_
    refine done rfl (.tmp rfl .nil) (retE ?_)
    exact bF (fun e => by subst e; omega)
  · try simp only [Bool.and_eq_true, Bool.or_eq_true, Bool.or_eq_false_iff, Bool.and_eq_false_iff, Bool.not_eq_true', Bool.not_eq_false', decide_eq_true_eq, decide_eq_false_iff_not, Decidable.not_not] at hlen
    refine skip ?_
    refine pN ?_
    refine seq ?_
    refine seq ?_
    refine region ?_
    refine cons (opv (Ev.assign (.c (v := I 0) rfl)) ?_)
    refine nil ?_
    refine pN ?_
    refine block ?_
    refine loop (X := Int) (fun x : Int => (0 ≤ x ∧ x ≤ a.length) ∧ (a.take x.toNat = b.take x.toNat)) (fun x : Int => [(0, true, u), (1, true, v), (5, true, I x)]) (fun x : Int => []) (fun x : Int => (a.length - x).toNat) (0) ⟨?_, ?_⟩ (by repeat first | exact Sub.nil | refine Sub.cons rfl ?_) (by repeat first | exact sR | exact sN | apply sC | apply sS | apply sA) (fun x hx => ?_)
    · omega
    · rfl
    obtain ⟨i, rfl⟩ : ∃ y, y = x := ⟨x, rfl⟩
    obtain ⟨hi, ht⟩ : (0 ≤ i ∧ i ≤ a.length) ∧ (a.take i.toNat = b.take i.toNat) := hx
    show Sat _ _ [(0, true, u), (1, true, v), (5, true, I i)] []
    refine seq ?_
    refine seq ?_
    refine region ?_
    refine cons (opv (Ev.move (.t rfl)) ?_)
    refine cons (opv (Ev.move (.t rfl)) ?_)
    refine cons (opv (Ev.len Try.underlying46 (.t rfl) (by first | exact isSl_own (by repeat first | exact mH | apply mT | apply mA) | exact fun w I => IsSl.keep0 (by assumption) I.keeps)) ?_)
    refine cons (opv (Ev.lss_i (.t rfl) (.t rfl)) ?_)
    refine nil ?_
    refine pN ?_
    first | refine condD rfl (fun hlt => ?_) (fun hge => ?_) | refine cond rfl (fun hlt => ?_) (fun hge => ?_)
    · try simp only [Bool.and_eq_true, Bool.or_eq_true, Bool.or_eq_false_iff, Bool.and_eq_false_iff, Bool.not_eq_true', Bool.not_eq_false', decide_eq_true_eq, decide_eq_false_iff_not, Decidable.not_not] at hlt
      refine skip ?_
      refine pN ?_
      refine seq ?_
      refine block ?_
      refine seq ?_
      refine draw' (by kernel_rfl) ?_
      refine take 0 rfl (by kernel_rfl) (by kernel_rfl) (by kernel_rfl) (by repeat first | exact sR | exact sN | apply sC | apply sS | apply sA) (Ev.move (.t rfl)) ?_
      refine take 1 rfl (by kernel_rfl) (by kernel_rfl) (by kernel_rfl) (by repeat first | exact sR | exact sN | apply sC | apply sS | apply sA) (Ev.move (.t rfl)) ?_
      refine take 2 rfl (by kernel_rfl) (by kernel_rfl) (by kernel_rfl) (by repeat first | exact sR | exact sN | apply sC | apply sS | apply sA) (Ev.indexAddr Try.underlying46 ty3 (.t rfl) (.t rfl) (by first | exact isSl_own (by repeat first | exact mH | apply mT | apply mA) | exact fun w I => IsSl.keep0 (by assumption) I.keeps) (fun _ => by omega)) ?_
      refine take 3 rfl (by kernel_rfl) (by kernel_rfl) (by kernel_rfl) (by repeat first | exact sR | exact sN | apply sC | apply sS | apply sA) (Ev.loadS0 ty3 (.t rfl) (by first | exact isSl_own (by repeat first | exact mH | apply mT | apply mA) | exact fun w I => IsSl.keep0 (by assumption) I.keeps) (fun _ => by omega)) ?_
      refine take 4 rfl (by kernel_rfl) (by kernel_rfl) (by kernel_rfl) (by repeat first | exact sR | exact sN | apply sC | apply sS | apply sA) (Ev.move (.t rfl)) ?_
      refine take 5 rfl (by kernel_rfl) (by kernel_rfl) (by kernel_rfl) (by repeat first | exact sR | exact sN | apply sC | apply sS | apply sA) (Ev.move (.t rfl)) ?_
      refine take 6 rfl (by kernel_rfl) (by kernel_rfl) (by kernel_rfl) (by repeat first | exact sR | exact sN | apply sC | apply sS | apply sA) (Ev.indexAddr Try.underlying46 ty3 (.t rfl) (.t rfl) (by first | exact isSl_own (by repeat first | exact mH | apply mT | apply mA) | exact fun w I => IsSl.keep0 (by assumption) I.keeps) (fun _ => by omega)) ?_
      refine take 7 rfl (by kernel_rfl) (by kernel_rfl) (by kernel_rfl) (by repeat first | exact sR | exact sN | apply sC | apply sS | apply sA) (Ev.loadS0 ty3 (.t rfl) (by first | exact isSl_own (by repeat first | exact mH | apply mT | apply mA) | exact fun w I => IsSl.keep0 (by assumption) I.keeps) (fun _ => by omega)) ?_
      refine take 8 rfl (by kernel_rfl) (by kernel_rfl) (by kernel_rfl) (by repeat first | exact sR | exact sN | apply sC | apply sS | apply sA) (Ev.neq_i (.t rfl) (.t rfl)) ?_
      refine over (by kernel_rfl) ?_
      refine pN ?_
      first | refine condD rfl (fun h2 => ?_) (fun h2 => ?_) | refine cond rfl (fun h2 => ?_) (fun h2 => ?_)
      · refine seq ?_
        refine region ?_
        refine cons (opv (Ev.assign (.c (v := .bool false) rfl)) ?_)
        refine nil ?_
        refine pN ?_
        refine ret ?_
        refine bR ?_
        refine pR ?_
        refine pR ?_
        refine bR ?_
        refine pR ?_
        refine done rfl (.tmp rfl .nil) (retE ?_)
        exact bF (fun e => by subst e; simp at h2)
      · refine skip ?_
        refine bN ?_
        refine pN ?_
        refine region ?_
        refine cons (opv (Ev.move (.t rfl)) ?_)
        refine cons (opv (Ev.add_i (.t rfl) (.c (v := I 1) rfl) (fun _ => by omega)) ?_)
        refine cons (opv (Ev.assign (.t rfl)) ?_)
        refine nil ?_
        refine pN ?_
        refine next (X := Int) (i + 1) ⟨?_, ?_⟩ ?_ (by repeat first | exact Sub.nil | refine Sub.cons rfl ?_) (by repeat first | exact sR | exact sN | apply sC | apply sS | apply sA)
        · try dsimp only
          omega
        · try dsimp only
          have h2c : a.getD i.toNat iE.zero = b.getD i.toNat iE.zero := by simpa using h2
          rw [take_snoc a i hi.1 (by omega) iE.zero, take_snoc b i hi.1 (by omega) iE.zero, ht, h2c]
        · try dsimp only
          omega
    · try simp only [Bool.and_eq_true, Bool.or_eq_true, Bool.or_eq_false_iff, Bool.and_eq_false_iff, Bool.not_eq_true', Bool.not_eq_false', decide_eq_true_eq, decide_eq_false_iff_not, Decidable.not_not] at hge
      refine exit ?_
      refine pX ?_
      refine pX ?_
      refine bX ?_
      refine pN ?_
      refine seq ?_
      refine region ?_
      refine cons (opv (Ev.assign (.c (v := .bool true) rfl)) ?_)
      refine nil ?_
      refine pN ?_
      refine ret ?_
      refine done rfl (.tmp rfl .nil) (retE ?_)
      exact bT (by
        have e : i.toNat = a.length := by omega
        rw [e, List.take_length, List.take_of_length_le (by omega)] at ht
        exact ht)

theorem dead0_ok (w : World) : Calls Try.prog 17 #[.pointer none] w (RetV w (.slice none 0 0)) := by
  refine enter0 41 Try.func17 rfl rfl (Nat.le_of_ble_eq_true rfl) ?_
  refine seq ?_
  refine region ?_
  refine cons (opv (Ev.assign (.c (v := (Go.Value.slice none 0 0)) rfl)) ?_)
  refine nil ?_
  refine pN ?_
  refine seq ?_
  refine seq ?_
  refine region ?_
  refine cons (opv (Ev.move (.t rfl)) ?_)
  refine cons (opv (Ev.eql_p Try.underlying43 (.t rfl) (.c rfl)) ?_)
  refine nil ?_
  refine pN ?_
  refine condT rfl (rfl) ?_
  refine seq ?_
  refine region ?_
  refine cons (opv (Ev.assign (.c (v := (Go.Value.slice none 0 0)) rfl)) ?_)
  refine nil ?_
  refine pN ?_
  refine ret ?_
  refine pR ?_
  refine done rfl (.tmp rfl .nil) (retE ?_)
  rfl

def six6 : SPrefix := { ePrefix.zero with addr := { eAddr.zero with v6 := true } }
def m80 (a p : UInt8) : SMatch := { eMatch.zero with asks := a, proto := p, dstPort := ⟨80, 80⟩ }
def K7 : List SMatch := [{ eMatch.zero with asks := 64 }, { eMatch.zero with proto := 6 }, { eMatch.zero with asks := 8, proto := 6 }, m80 32 0, m80 40 17, { eMatch.zero with asks := 1, in_ := ⟨0, 256⟩ }, { eMatch.zero with asks := 6, src := { addr := { v6 := false, b := (Vector.replicate 16 0).set 0 10 }, bits := 8 }, dst := six6 }]
def K3 : List SMatch := [{ eMatch.zero with asks := 8, proto := 17 }, eMatch.zero, { eMatch.zero with asks := 8, proto := 6 }]
theorem K3_comp : compE K3 = 0 := by decide +kernel
theorem nil_comp : compE [] = 0 := by decide +kernel
theorem rules_nil {K : Ctx} {L : List Res} {b : Nat} {x : SRuleRules} (hx : x = eRuleRules.zero) (hm : Var b eRuleRules x 66 ∈ L) (w : World) (I : WInv K L w) : RulesAt w b [] := by
  subst hx
  exact ⟨nilSl, nilSl, [], fun _ => 0, ptsVar hm (Lens.id _) w I, IsSl.nil _ w, IsSl.nil _ w, rfl, fun k hk => absurd hk (Nat.not_lt_zero _)⟩

theorem ty36 : TyOK Try.prog 36 iE := TyOK.mk' (by kernel_rfl) (by kernel_rfl)

theorem z36 : (Try.prog.info? 36).bind (·.zero) = some (iE.val iE.zero) := by kernel_rfl

theorem zb36 : (Try.prog.info? 36).map (fun i => (i.zero, i.bytes)) = some (some (iE.val iE.zero), 8) := by kernel_rfl

theorem zs36 : (iE.val iE.zero).cells.size = iE.size := by rw [Enc.cells_val, List.size_toArray, Enc.len]

theorem en23 : Enters Try.prog 23 := Enters.mk' (by kernel_rfl)

theorem RuleKnown_walk (w : World) : Calls Try.prog 10 #[] w (RetV w (.bool true)) := by
  refine enter0 233 Try.func10 rfl rfl (Nat.le_of_ble_eq_true rfl) ?_
  refine seq ?_
  refine region ?_
  refine cons (opv (Ev.assign (.c (v := .bool false) rfl)) ?_)
  refine nil ?_
  refine pN ?_
  refine seq ?_
  refine region ?_
  refine cons (opv (Ev.buildS (fs := _) (places := [(0, 1), (1, 16)]) z27 rfl Try.underlying27 (by kernel_rfl) (.cons (.c (v := .bool true) rfl) .nil) (Fills.cons SAddr.l_v6 rfl Fills.nil)) ?_)
  refine cons (opv (Ev.buildS (fs := _) (places := [(0, 17), (17, 1)]) z29 rfl Try.underlying29 (by kernel_rfl) (.cons (.t rfl) .nil) (Fills.cons SPrefix.l_addr rfl Fills.nil)) ?_)
  refine cons (alloc z29 (fun b1 => ?_))
  refine cons (storeV ty29 (Lens.id _) (.t rfl) (.t rfl) (by repeat first | exact Upd.head | apply Upd.tail | apply Upd.right) ?_)
  refine nil ?_
  refine pN ?_
  refine seq ?_
  refine region ?_
  refine cons (opv (Ev.assign (.c (v := (Go.Value.slice none 0 0)) rfl)) ?_)
  refine takeNil iE 36 ?_
  refine nil ?_
  refine pN ?_
  refine seq ?_
  refine seq ?_
  refine draw' (by kernel_rfl) ?_
  refine take 0 rfl (by kernel_rfl) (by kernel_rfl) (by kernel_rfl) (by repeat first | exact sR | exact sN | apply sC | apply sS | apply sA) (Ev.buildS (fs := _) (places := [(0, 1), (1, 2), (3, 18), (21, 18), (39, 1), (40, 2), (42, 2)]) z31 rfl Try.underlying31 (by kernel_rfl) (.cons (.c (v := U8 64) rfl) .nil) (Fills.cons SMatch.l_asks rfl Fills.nil)) ?_
  refine take 1 rfl (by kernel_rfl) (by kernel_rfl) (by kernel_rfl) (by repeat first | exact sR | exact sN | apply sC | apply sS | apply sA) (Ev.buildS (fs := _) (places := [(0, 1), (1, 2), (3, 18), (21, 18), (39, 1), (40, 2), (42, 2)]) z31 rfl Try.underlying31 (by kernel_rfl) (.cons (.c (v := U8 6) rfl) .nil) (Fills.cons SMatch.l_proto rfl Fills.nil)) ?_
  refine take 2 rfl (by kernel_rfl) (by kernel_rfl) (by kernel_rfl) (by repeat first | exact sR | exact sN | apply sC | apply sS | apply sA) (Ev.buildS (fs := _) (places := [(0, 1), (1, 2), (3, 18), (21, 18), (39, 1), (40, 2), (42, 2)]) z31 rfl Try.underlying31 (by kernel_rfl) (.cons (.c (v := U8 8) rfl) (.cons (.c (v := U8 6) rfl) .nil)) (Fills.cons SMatch.l_asks rfl (Fills.cons SMatch.l_proto rfl Fills.nil))) ?_
  refine take 3 rfl (by kernel_rfl) (by kernel_rfl) (by kernel_rfl) (by repeat first | exact sR | exact sN | apply sC | apply sS | apply sA) (Ev.buildS (fs := _) (places := [(0, 1), (1, 1)]) z24 rfl Try.underlying24 (by kernel_rfl) (.cons (.c (v := U16 80) rfl) (.cons (.c (v := U16 80) rfl) .nil)) (Fills.cons SSpan.l_from_ rfl (Fills.cons SSpan.l_to_ rfl Fills.nil))) ?_
  refine take 4 rfl (by kernel_rfl) (by kernel_rfl) (by kernel_rfl) (by repeat first | exact sR | exact sN | apply sC | apply sS | apply sA) (Ev.buildS (fs := _) (places := [(0, 1), (1, 2), (3, 18), (21, 18), (39, 1), (40, 2), (42, 2)]) z31 rfl Try.underlying31 (by kernel_rfl) (.cons (.c (v := U8 32) rfl) (.cons (.t rfl) .nil)) (Fills.cons SMatch.l_asks rfl (Fills.cons SMatch.l_dstPort rfl Fills.nil))) ?_
  refine take 5 rfl (by kernel_rfl) (by kernel_rfl) (by kernel_rfl) (by repeat first | exact sR | exact sN | apply sC | apply sS | apply sA) (Ev.buildS (fs := _) (places := [(0, 1), (1, 1)]) z24 rfl Try.underlying24 (by kernel_rfl) (.cons (.c (v := U16 80) rfl) (.cons (.c (v := U16 80) rfl) .nil)) (Fills.cons SSpan.l_from_ rfl (Fills.cons SSpan.l_to_ rfl Fills.nil))) ?_
  refine take 6 rfl (by kernel_rfl) (by kernel_rfl) (by kernel_rfl) (by repeat first | exact sR | exact sN | apply sC | apply sS | apply sA) (Ev.buildS (fs := _) (places := [(0, 1), (1, 2), (3, 18), (21, 18), (39, 1), (40, 2), (42, 2)]) z31 rfl Try.underlying31 (by kernel_rfl) (.cons (.c (v := U8 40) rfl) (.cons (.c (v := U8 17) rfl) (.cons (.t rfl) .nil))) (Fills.cons SMatch.l_asks rfl (Fills.cons SMatch.l_proto rfl (Fills.cons SMatch.l_dstPort rfl Fills.nil)))) ?_
  refine take 7 rfl (by kernel_rfl) (by kernel_rfl) (by kernel_rfl) (by repeat first | exact sR | exact sN | apply sC | apply sS | apply sA) (Ev.buildS (fs := _) (places := [(0, 1), (1, 1)]) z24 rfl Try.underlying24 (by kernel_rfl) (.cons (.c (v := U16 256) rfl) .nil) (Fills.cons SSpan.l_to_ rfl Fills.nil)) ?_
  refine take 8 rfl (by kernel_rfl) (by kernel_rfl) (by kernel_rfl) (by repeat first | exact sR | exact sN | apply sC | apply sS | apply sA) (Ev.buildS (fs := _) (places := [(0, 1), (1, 2), (3, 18), (21, 18), (39, 1), (40, 2), (42, 2)]) z31 rfl Try.underlying31 (by kernel_rfl) (.cons (.c (v := U8 1) rfl) (.cons (.t rfl) .nil)) (Fills.cons SMatch.l_asks rfl (Fills.cons SMatch.l_in_ rfl Fills.nil))) ?_
  refine take 10 rfl (by kernel_rfl) (by kernel_rfl) (by kernel_rfl) (by repeat first | exact sR | exact sN | apply sC | apply sS | apply sA) (Ev.load ty29 (.t rfl) (ptsVar (by repeat first | exact mH | apply mT | apply mA) (Lens.id _))) ?_
  refine take 14 rfl (by kernel_rfl) (by kernel_rfl) (by kernel_rfl) (by repeat first | exact sR | exact sN | apply sC | apply sS | apply sA) (Ev.move (.c (v := I 0) rfl)) ?_
  refine all [9] (by kernel_rfl) (by decide) (.cons rfl ?_ .nil)
  refine (callv en30 (.cons (.c (v := I 8) rfl) .nil) (fun w I => ten_ok _ w) ?_)
  refine heldN_of (by repeat first | exact sR | exact sN | apply sC | apply sS | apply sA) ?_
  refine take 11 rfl (by kernel_rfl) (by kernel_rfl) (by kernel_rfl) (by repeat first | exact sR | exact sN | apply sC | apply sS | apply sA) (Ev.buildS (fs := _) (places := [(0, 1), (1, 2), (3, 18), (21, 18), (39, 1), (40, 2), (42, 2)]) z31 rfl Try.underlying31 (by kernel_rfl) (.cons (.c (v := U8 6) rfl) (.cons (.t rfl) (.cons (.t rfl) .nil))) (Fills.cons SMatch.l_asks rfl (Fills.cons SMatch.l_src rfl (Fills.cons SMatch.l_dst rfl Fills.nil)))) ?_
  refine all [12] (by kernel_rfl) (by decide) (.cons rfl ?_ .nil)
  refine (buildSlice (E := eMatch) Try.underlying41 ty31 z31 (.cons (.t rfl) (.cons (.t rfl) (.cons (.t rfl) (.cons (.t rfl) (.cons (.t rfl) (.cons (.t rfl) (.cons (.t rfl) .nil))))))) rfl rfl (fun v2 => ?_))
  refine heldN_of (by repeat first | exact sR | exact sN | apply sC | apply sS | apply sA) ?_
  refine all [13] (by kernel_rfl) (by decide) (.cons rfl ?_ .nil)
  refine (opv (Ev.len Try.underlying41 (.t rfl) (by first | exact isSl_own (by repeat first | exact mH | apply mT | apply mA) | exact fun w I => IsSl.keep0 (by assumption) I.keeps)) ?_)
  refine heldN_of (by repeat first | exact sR | exact sN | apply sC | apply sS | apply sA) ?_
  refine over (by kernel_rfl) ?_
  refine pN ?_
  refine block ?_
  refine loop (X := Int × OV × (List Int)) (fun x : Int × OV × (List Int) => (0 ≤ x.1 ∧ x.1 ≤ 7) ∧ (x.2.2 = (K7.take x.1.toNat).map ckM)) (fun x : Int × OV × (List Int) => [(1, true, .pointer (some ⟨b1, 0, none⟩)), (2, true, x.2.1.v), (34, true, v2.v), (35, true, I 7), (36, true, I x.1)]) (fun x : Int × OV × (List Int) => [OwnS v2.v eMatch K7 31, OwnS x.2.1.v iE x.2.2 36, Var b1 ePrefix six6 29]) (fun x : Int × OV × (List Int) => (7 - x.1).toNat) (0, nilSl, []) ⟨?_, ?_⟩ (by repeat first | exact Sub.nil | refine Sub.cons rfl ?_) (by repeat first | exact sR | exact sN | apply sC | apply sS | apply sA) (fun x hx => ?_)
  · omega
  · rfl
  obtain ⟨i, o, es⟩ := x
  obtain ⟨hi, hes⟩ : (0 ≤ i ∧ i ≤ 7) ∧ (es = (K7.take i.toNat).map ckM) := hx
  show Sat _ _ [(1, true, .pointer (some ⟨b1, 0, none⟩)), (2, true, o.v), (34, true, v2.v), (35, true, I 7), (36, true, I i)] [OwnS v2.v eMatch K7 31, OwnS o.v iE es 36, Var b1 ePrefix six6 29]
  have hel : es.length ≤ 7 := by
    rw [hes, List.length_map]
    exact Nat.le_trans (List.length_take_le _ _) (by omega)
  refine seq ?_
  refine region ?_
  refine cons (opv (Ev.lss_i (.t rfl) (.t rfl)) ?_)
  refine nil ?_
  refine pN ?_
  refine seq ?_
  first | refine condD rfl (fun hlt => ?_) (fun hge => ?_) | refine cond rfl (fun hlt => ?_) (fun hge => ?_)
  · try simp only [Bool.and_eq_true, Bool.or_eq_true, Bool.or_eq_false_iff, Bool.and_eq_false_iff, Bool.not_eq_true', Bool.not_eq_false', decide_eq_true_eq, decide_eq_false_iff_not, Decidable.not_not] at hlt
    refine skip ?_
    refine pN ?_
    refine seq ?_
    refine block ?_
    refine seq ?_
    refine region ?_
    refine cons (opv (Ev.indexAddr Try.underlying41 ty31 (.t rfl) (.t rfl) (by first | exact isSl_own (by repeat first | exact mH | apply mT | apply mA) | exact fun w I => IsSl.keep0 (by assumption) I.keeps) (fun _ => by show 0 ≤ i ∧ i < 7; omega)) ?_)
    refine cons (opv (Ev.loadS0 ty31 (.t rfl) (by first | exact isSl_own (by repeat first | exact mH | apply mT | apply mA) | exact fun w I => IsSl.keep0 (by assumption) I.keeps) (fun _ => by show 0 ≤ i ∧ i < 7; omega)) ?_)
    refine cons (alloc z31 (fun b3 => ?_))
    refine cons (storeV ty31 (Lens.id _) (.t rfl) (.t rfl) (by repeat first | exact Upd.head | apply Upd.tail | apply Upd.right) ?_)
    refine nil ?_
    refine pN ?_
    refine region ?_
    refine cons (opv (Ev.move (.t rfl)) ?_)
    refine cons (opv (Ev.load ty31 (.t rfl) (ptsVar (by repeat first | exact mH | apply mT | apply mA) (Lens.id _))) ?_)
    refine cons (callv en12 (.cons (.t rfl) .nil) (fun w I => check_ok _ w) ?_)
    refine cons (buildSlice (E := iE) Try.underlying62 ty36 z36 (.cons (.t rfl) .nil) rfl rfl (fun v4 => ?_))
    refine cons (append (E := iE) Try.underlying62 ty36 rfl zb36 zs36 (.t rfl) (.t rfl) (fun _ => by repeat first | exact Upd.head | apply Upd.tail | apply Upd.right) (by first | exact isSl_own (by repeat first | exact mH | apply mT | apply mA) | exact fun w I => IsSl.keep0 (by assumption) I.keeps) (⟨by (show _ ≤ 9223372036854775807); first | omega | (simp; done) | (simp; omega), by first | omega | (simp; done) | (simp; omega)⟩) (fun v5 => ?_))
    refine cons (opv (Ev.assign (.t rfl)) ?_)
    refine nil ?_
    refine bN ?_
    refine pN ?_
    refine region ?_
    refine cons (opv (Ev.add_i (.t rfl) (.c (v := I 1) rfl) (fun _ => by omega)) ?_)
    refine cons (opv (Ev.move (.t rfl)) ?_)
    refine nil ?_
    refine pN ?_
    refine next (X := Int × OV × (List Int)) (i + 1, _, _) ⟨?_, ?_⟩ ?_ (by repeat first | exact Sub.nil | refine Sub.cons rfl ?_) (by repeat first | exact sR | exact sN | apply sC | apply sS | apply sA)
    · try dsimp only
      omega
    · try dsimp only
      rw [take_snoc K7 i hi.1 (by show i < 7; omega) eMatch.zero, List.map_append, ← hes]; rfl
    · try dsimp only
      omega
  · try simp only [Bool.and_eq_true, Bool.or_eq_true, Bool.or_eq_false_iff, Bool.and_eq_false_iff, Bool.not_eq_true', Bool.not_eq_false', decide_eq_true_eq, decide_eq_false_iff_not, Decidable.not_not] at hge
    refine exit ?_
    refine pX ?_
    refine pX ?_
    refine bX ?_
    refine pN ?_
    refine seq ?_
    refine region ?_
    have e7 : i.toNat = 7 := by omega
    rw [e7] at hes
    subst hes
    refine cons (opv (Ev.move (.t rfl)) ?_)
    refine cons (opv (Ev.indexAddr Try.underlying62 ty36 (.t rfl) (.c (v := I 0) rfl) (by first | exact isSl_own (by repeat first | exact mH | apply mT | apply mA) | exact fun w I => IsSl.keep0 (by assumption) I.keeps) (fun _ => by show 0 ≤ (0 : Int) ∧ (0 : Int) < 7; omega)) ?_)
    refine cons (opv (Ev.loadS0 (i := 0) ty36 (.t rfl) (by first | exact isSl_own (by repeat first | exact mH | apply mT | apply mA) | exact fun w I => IsSl.keep0 (by assumption) I.keeps) (fun _ => by show 0 ≤ (0 : Int) ∧ (0 : Int) < 7; omega)) ?_)
    refine cons (opv (Ev.eql_i (.t rfl) (.c (v := I 190) rfl)) ?_)
    refine cons (opv (Ev.to (v' := .bool true) (Ev.move (.t rfl)) (congrArg Value.bool (by decide +kernel))) ?_)
    refine cons (opg rfl rfl (Ev.move (.t rfl)) ?_)
    refine cons (opg rfl rfl (Ev.indexAddr Try.underlying62 ty36 (.g rfl id) (.c (v := I 1) rfl) (by first | exact isSl_own (by repeat first | exact mH | apply mT | apply mA) | exact fun w I => IsSl.keep0 (by assumption) I.keeps) (fun _ => by show 0 ≤ (1 : Int) ∧ (1 : Int) < 7; omega)) ?_)
    refine cons (opg rfl rfl (Ev.loadS0 (i := 1) ty36 (.g rfl id) (by first | exact isSl_own (by repeat first | exact mH | apply mT | apply mA) | exact fun w I => IsSl.keep0 (by assumption) I.keeps) (fun _ => by show 0 ≤ (1 : Int) ∧ (1 : Int) < 7; omega)) ?_)
    refine cons (opg rfl rfl (Ev.eql_i (.g rfl id) (.c (v := I 190) rfl)) ?_)
    refine cons (opv (Ev.pickA (.t rfl) (fun {_} h => by cases h; rfl) ⟨_, rfl⟩ (by intro h1 h; first | (rw [h] <;> rfl) | (rw [h1, h] <;> rfl) | (rw [h, h1] <;> rfl) | simp_all) (.c (v := .bool false) rfl)) ?_)
    refine cons (opv (Ev.to (v' := .bool true) (Ev.move (.t rfl)) (congrArg Value.bool (by decide +kernel))) ?_)
    refine cons (opg rfl rfl (Ev.move (.t rfl)) ?_)
    refine cons (opg rfl rfl (Ev.indexAddr Try.underlying62 ty36 (.g rfl id) (.c (v := I 2) rfl) (by first | exact isSl_own (by repeat first | exact mH | apply mT | apply mA) | exact fun w I => IsSl.keep0 (by assumption) I.keeps) (fun _ => by show 0 ≤ (2 : Int) ∧ (2 : Int) < 7; omega)) ?_)
    refine cons (opg rfl rfl (Ev.loadS0 (i := 2) ty36 (.g rfl id) (by first | exact isSl_own (by repeat first | exact mH | apply mT | apply mA) | exact fun w I => IsSl.keep0 (by assumption) I.keeps) (fun _ => by show 0 ≤ (2 : Int) ∧ (2 : Int) < 7; omega)) ?_)
    refine cons (opg rfl rfl (Ev.eql_i (.g rfl id) (.c (v := I 0) rfl)) ?_)
    refine cons (opv (Ev.pickA (.t rfl) (fun {_} h => by cases h; rfl) ⟨_, rfl⟩ (by intro h1 h; first | (rw [h] <;> rfl) | (rw [h1, h] <;> rfl) | (rw [h, h1] <;> rfl) | simp_all) (.c (v := .bool false) rfl)) ?_)
    refine cons (opv (Ev.to (v' := .bool true) (Ev.move (.t rfl)) (congrArg Value.bool (by decide +kernel))) ?_)
    refine cons (opg rfl rfl (Ev.move (.t rfl)) ?_)
    refine cons (opg rfl rfl (Ev.indexAddr Try.underlying62 ty36 (.g rfl id) (.c (v := I 3) rfl) (by first | exact isSl_own (by repeat first | exact mH | apply mT | apply mA) | exact fun w I => IsSl.keep0 (by assumption) I.keeps) (fun _ => by show 0 ≤ (3 : Int) ∧ (3 : Int) < 7; omega)) ?_)
    refine cons (opg rfl rfl (Ev.loadS0 (i := 3) ty36 (.g rfl id) (by first | exact isSl_own (by repeat first | exact mH | apply mT | apply mA) | exact fun w I => IsSl.keep0 (by assumption) I.keeps) (fun _ => by show 0 ≤ (3 : Int) ∧ (3 : Int) < 7; omega)) ?_)
    refine cons (opg rfl rfl (Ev.eql_i (.g rfl id) (.c (v := I 190) rfl)) ?_)
    refine cons (opv (Ev.pickA (.t rfl) (fun {_} h => by cases h; rfl) ⟨_, rfl⟩ (by intro h1 h; first | (rw [h] <;> rfl) | (rw [h1, h] <;> rfl) | (rw [h, h1] <;> rfl) | simp_all) (.c (v := .bool false) rfl)) ?_)
    refine cons (opv (Ev.to (v' := .bool true) (Ev.move (.t rfl)) (congrArg Value.bool (by decide +kernel))) ?_)
    refine cons (opg rfl rfl (Ev.move (.t rfl)) ?_)
    refine cons (opg rfl rfl (Ev.indexAddr Try.underlying62 ty36 (.g rfl id) (.c (v := I 4) rfl) (by first | exact isSl_own (by repeat first | exact mH | apply mT | apply mA) | exact fun w I => IsSl.keep0 (by assumption) I.keeps) (fun _ => by show 0 ≤ (4 : Int) ∧ (4 : Int) < 7; omega)) ?_)
    refine cons (opg rfl rfl (Ev.loadS0 (i := 4) ty36 (.g rfl id) (by first | exact isSl_own (by repeat first | exact mH | apply mT | apply mA) | exact fun w I => IsSl.keep0 (by assumption) I.keeps) (fun _ => by show 0 ≤ (4 : Int) ∧ (4 : Int) < 7; omega)) ?_)
    refine cons (opg rfl rfl (Ev.eql_i (.g rfl id) (.c (v := I 0) rfl)) ?_)
    refine cons (opv (Ev.pickA (.t rfl) (fun {_} h => by cases h; rfl) ⟨_, rfl⟩ (by intro h1 h; first | (rw [h] <;> rfl) | (rw [h1, h] <;> rfl) | (rw [h, h1] <;> rfl) | simp_all) (.c (v := .bool false) rfl)) ?_)
    refine cons (opv (Ev.to (v' := .bool true) (Ev.move (.t rfl)) (congrArg Value.bool (by decide +kernel))) ?_)
    refine cons (opg rfl rfl (Ev.move (.t rfl)) ?_)
    refine cons (opg rfl rfl (Ev.indexAddr Try.underlying62 ty36 (.g rfl id) (.c (v := I 5) rfl) (by first | exact isSl_own (by repeat first | exact mH | apply mT | apply mA) | exact fun w I => IsSl.keep0 (by assumption) I.keeps) (fun _ => by show 0 ≤ (5 : Int) ∧ (5 : Int) < 7; omega)) ?_)
    refine cons (opg rfl rfl (Ev.loadS0 (i := 5) ty36 (.g rfl id) (by first | exact isSl_own (by repeat first | exact mH | apply mT | apply mA) | exact fun w I => IsSl.keep0 (by assumption) I.keeps) (fun _ => by show 0 ≤ (5 : Int) ∧ (5 : Int) < 7; omega)) ?_)
    refine cons (opg rfl rfl (Ev.eql_i (.g rfl id) (.c (v := I 190) rfl)) ?_)
    refine cons (opv (Ev.pickA (.t rfl) (fun {_} h => by cases h; rfl) ⟨_, rfl⟩ (by intro h1 h; first | (rw [h] <;> rfl) | (rw [h1, h] <;> rfl) | (rw [h, h1] <;> rfl) | simp_all) (.c (v := .bool false) rfl)) ?_)
    refine cons (opv (Ev.to (v' := .bool true) (Ev.move (.t rfl)) (congrArg Value.bool (by decide +kernel))) ?_)
    refine cons (opg rfl rfl (Ev.move (.t rfl)) ?_)
    refine cons (opg rfl rfl (Ev.indexAddr Try.underlying62 ty36 (.g rfl id) (.c (v := I 6) rfl) (by first | exact isSl_own (by repeat first | exact mH | apply mT | apply mA) | exact fun w I => IsSl.keep0 (by assumption) I.keeps) (fun _ => by show 0 ≤ (6 : Int) ∧ (6 : Int) < 7; omega)) ?_)
    refine cons (opg rfl rfl (Ev.loadS0 (i := 6) ty36 (.g rfl id) (by first | exact isSl_own (by repeat first | exact mH | apply mT | apply mA) | exact fun w I => IsSl.keep0 (by assumption) I.keeps) (fun _ => by show 0 ≤ (6 : Int) ∧ (6 : Int) < 7; omega)) ?_)
    refine cons (opg rfl rfl (Ev.eql_i (.g rfl id) (.c (v := I 190) rfl)) ?_)
    refine cons (opv (Ev.pickA (.t rfl) (fun {_} h => by cases h; rfl) ⟨_, rfl⟩ (by intro h1 h; first | (rw [h] <;> rfl) | (rw [h1, h] <;> rfl) | (rw [h, h1] <;> rfl) | simp_all) (.c (v := .bool false) rfl)) ?_)
    refine cons (opv (Ev.to (v' := .bool true) (Ev.assign (.t rfl)) (congrArg Value.bool (by decide +kernel))) ?_)
    refine nil ?_
    refine pN ?_
    refine seq ?_
    refine region ?_
    refine cons (opv (Ev.buildS (fs := _) (places := [(0, 1), (1, 2), (3, 18), (21, 18), (39, 1), (40, 2), (42, 2)]) z31 rfl Try.underlying31 (by kernel_rfl) .nil Fills.nil) ?_)
    refine cons (alloc z31 (fun b6 => ?_))
    refine cons (storeV ty31 (Lens.id _) (.t rfl) (.t rfl) (by repeat first | exact Upd.head | apply Upd.tail | apply Upd.right) ?_)
    refine nil ?_
    refine pN ?_
    refine seq ?_
    refine region ?_
    refine cons (opv (Ev.buildS (fs := _) (places := [(0, 17), (17, 1)]) z29 rfl Try.underlying29 (by kernel_rfl) .nil Fills.nil) ?_)
    refine cons (opv (Ev.buildS (fs := _) (places := [(0, 1), (1, 2), (3, 18), (21, 18), (39, 1), (40, 2), (42, 2)]) z31 rfl Try.underlying31 (by kernel_rfl) (.cons (.c (v := U8 2) rfl) (.cons (.t rfl) .nil)) (Fills.cons SMatch.l_asks rfl (Fills.cons SMatch.l_src rfl Fills.nil))) ?_)
    refine cons (alloc z31 (fun b7 => ?_))
    refine cons (storeV ty31 (Lens.id _) (.t rfl) (.t rfl) (by repeat first | exact Upd.head | apply Upd.tail | apply Upd.right) ?_)
    refine nil ?_
    refine pN ?_
    refine seq ?_
    refine region ?_
    refine cons (callv en30 (.cons (.c (v := I 8) rfl) .nil) (fun w I => ten_ok _ w) ?_)
    refine cons (opv (Ev.buildS (fs := _) (places := [(0, 1), (1, 2), (3, 18), (21, 18), (39, 1), (40, 2), (42, 2)]) z31 rfl Try.underlying31 (by kernel_rfl) (.cons (.c (v := U8 4) rfl) (.cons (.t rfl) .nil)) (Fills.cons SMatch.l_asks rfl (Fills.cons SMatch.l_dst rfl Fills.nil))) ?_)
    refine cons (alloc z31 (fun b8 => ?_))
    refine cons (storeV ty31 (Lens.id _) (.t rfl) (.t rfl) (by repeat first | exact Upd.head | apply Upd.tail | apply Upd.right) ?_)
    refine nil ?_
    refine pN ?_
    refine seq ?_
    refine region ?_
    refine cons (opv (Ev.load ty31 (.t rfl) (ptsVar (by repeat first | exact mH | apply mT | apply mA) (Lens.id _))) ?_)
    refine cons (opv (Ev.load ty31 (.t rfl) (ptsVar (by repeat first | exact mH | apply mT | apply mA) (Lens.id _))) ?_)
    refine cons (callv en25 (.cons (.t rfl) (.cons (.t rfl) .nil)) (fun w I => covers_ok _ _ w) ?_)
    refine cons (opv (Ev.to (v' := .bool true) (Ev.move (.t rfl)) (congrArg Value.bool (by decide +kernel))) ?_)
    refine cons (opg rfl rfl (Ev.buildS (fs := _) (places := [(0, 1), (1, 1)]) z24 rfl Try.underlying24 (by kernel_rfl) (.cons (.c (v := U16 255) rfl) .nil) (Fills.cons SSpan.l_to_ rfl Fills.nil)) ?_)
    refine cons (opg rfl rfl (Ev.buildS (fs := _) (places := [(0, 1), (1, 2), (3, 18), (21, 18), (39, 1), (40, 2), (42, 2)]) z31 rfl Try.underlying31 (by kernel_rfl) (.cons (.c (v := U8 1) rfl) (.cons (.g rfl id) .nil)) (Fills.cons SMatch.l_asks rfl (Fills.cons SMatch.l_in_ rfl Fills.nil))) ?_)
    refine cons (opg rfl rfl (Ev.load ty31 (.t rfl) (ptsVar (by repeat first | exact mH | apply mT | apply mA) (Lens.id _))) ?_)
    refine cons (callg rfl rfl en25 (.cons (.g rfl id) (.cons (.g rfl id) .nil)) (fun hg w I => covers_ok _ _ w) ?_)
    refine cons (opv (Ev.pickA (.t rfl) (fun {_} h => by cases h; rfl) ⟨_, rfl⟩ (by intro h1 h; first | (rw [h] <;> rfl) | (rw [h1, h] <;> rfl) | (rw [h, h1] <;> rfl) | simp_all) (.c (v := .bool false) rfl)) ?_)
    refine cons (opv (Ev.to (v' := .bool true) (Ev.move (.t rfl)) (congrArg Value.bool (by decide +kernel))) ?_)
    refine cons (opg rfl rfl (Ev.load ty31 (.t rfl) (ptsVar (by repeat first | exact mH | apply mT | apply mA) (Lens.id _))) ?_)
    refine cons (opg rfl rfl (Ev.load ty31 (.t rfl) (ptsVar (by repeat first | exact mH | apply mT | apply mA) (Lens.id _))) ?_)
    refine cons (callg rfl rfl en25 (.cons (.g rfl id) (.cons (.g rfl id) .nil)) (fun hg w I => covers_ok _ _ w) ?_)
    refine cons (opv (Ev.pickA (.t rfl) (fun {_} h => by cases h; rfl) ⟨_, rfl⟩ (by intro h1 h; first | (rw [h] <;> rfl) | (rw [h1, h] <;> rfl) | (rw [h, h1] <;> rfl) | simp_all) (.c (v := .bool false) rfl)) ?_)
    refine cons (opv (Ev.to (v' := .bool true) (Ev.move (.t rfl)) (congrArg Value.bool (by decide +kernel))) ?_)
    refine cons (opg rfl rfl (Ev.load ty31 (.t rfl) (ptsVar (by repeat first | exact mH | apply mT | apply mA) (Lens.id _))) ?_)
    refine cons (opg rfl rfl (Ev.load ty31 (.t rfl) (ptsVar (by repeat first | exact mH | apply mT | apply mA) (Lens.id _))) ?_)
    refine cons (callg rfl rfl en25 (.cons (.g rfl id) (.cons (.g rfl id) .nil)) (fun hg w I => covers_ok _ _ w) ?_)
    refine cons (opg rfl rfl (Ev.not (.g rfl id)) ?_)
    refine cons (opv (Ev.pickA (.t rfl) (fun {_} h => by cases h; rfl) ⟨_, rfl⟩ (by intro h1 h; first | (rw [h] <;> rfl) | (rw [h1, h] <;> rfl) | (rw [h, h1] <;> rfl) | simp_all) (.c (v := .bool false) rfl)) ?_)
    refine cons (opv (Ev.to (v' := .bool true) (Ev.assign (.t rfl)) (congrArg Value.bool (by decide +kernel))) ?_)
    refine nil ?_
    refine pN ?_
    refine seq ?_
    refine region ?_
    refine cons (opv (Ev.buildS (fs := _) (places := [(0, 1), (1, 2), (3, 18), (21, 18), (39, 1), (40, 2), (42, 2)]) z31 rfl Try.underlying31 (by kernel_rfl) (.cons (.c (v := U8 8) rfl) (.cons (.c (v := U8 6) rfl) .nil)) (Fills.cons SMatch.l_asks rfl (Fills.cons SMatch.l_proto rfl Fills.nil))) ?_)
    refine cons (opv (Ev.buildS (fs := _) (places := [(0, 1), (1, 2), (3, 18), (21, 18), (39, 1), (40, 2), (42, 2)]) z31 rfl Try.underlying31 (by kernel_rfl) (.cons (.c (v := U8 8) rfl) (.cons (.c (v := U8 17) rfl) .nil)) (Fills.cons SMatch.l_asks rfl (Fills.cons SMatch.l_proto rfl Fills.nil))) ?_)
    refine cons (alloc z31 (fun b9 => ?_))
    refine cons (alloc z31 (fun b10 => ?_))
    refine cons (storeV ty31 (Lens.id _) (.t rfl) (.t rfl) (by repeat first | exact Upd.head | apply Upd.tail | apply Upd.right) ?_)
    refine cons (storeV ty31 (Lens.id _) (.t rfl) (.t rfl) (by repeat first | exact Upd.head | apply Upd.tail | apply Upd.right) ?_)
    refine nil ?_
    refine pN ?_
    refine seq ?_
    refine draw' (by kernel_rfl) ?_
    refine all [0] (by kernel_rfl) (by decide) (.cons rfl ?_ .nil)
    refine (callv en30 (.cons (.c (v := I 8) rfl) .nil) (fun w I => ten_ok _ w) ?_)
    refine heldN_of (by repeat first | exact sR | exact sN | apply sC | apply sS | apply sA) ?_
    refine take 1 rfl (by kernel_rfl) (by kernel_rfl) (by kernel_rfl) (by repeat first | exact sR | exact sN | apply sC | apply sS | apply sA) (Ev.buildS (fs := _) (places := [(0, 1), (1, 2), (3, 18), (21, 18), (39, 1), (40, 2), (42, 2)]) z31 rfl Try.underlying31 (by kernel_rfl) (.cons (.c (v := U8 2) rfl) (.cons (.t rfl) .nil)) (Fills.cons SMatch.l_asks rfl (Fills.cons SMatch.l_src rfl Fills.nil))) ?_
    refine all [2] (by kernel_rfl) (by decide) (.cons rfl ?_ .nil)
    refine (callv en30 (.cons (.c (v := I 16) rfl) .nil) (fun w I => ten_ok _ w) ?_)
    refine heldN_of (by repeat first | exact sR | exact sN | apply sC | apply sS | apply sA) ?_
    refine take 3 rfl (by kernel_rfl) (by kernel_rfl) (by kernel_rfl) (by repeat first | exact sR | exact sN | apply sC | apply sS | apply sA) (Ev.buildS (fs := _) (places := [(0, 1), (1, 2), (3, 18), (21, 18), (39, 1), (40, 2), (42, 2)]) z31 rfl Try.underlying31 (by kernel_rfl) (.cons (.c (v := U8 2) rfl) (.cons (.t rfl) .nil)) (Fills.cons SMatch.l_asks rfl (Fills.cons SMatch.l_src rfl Fills.nil))) ?_
    refine all [4] (by kernel_rfl) (by decide) (.cons rfl ?_ .nil)
    refine (callv en27 (.cons (.t rfl) (.cons (.t rfl) .nil)) (fun w I => apart_ok _ _ w) ?_)
    refine heldN_of (by repeat first | exact sR | exact sN | apply sC | apply sS | apply sA) ?_
    refine take 5 rfl (by kernel_rfl) (by kernel_rfl) (by kernel_rfl) (by repeat first | exact sR | exact sN | apply sC | apply sS | apply sA) (Ev.not (.t rfl)) ?_
    refine take 6 rfl (by kernel_rfl) (by kernel_rfl) (by kernel_rfl) (by repeat first | exact sR | exact sN | apply sC | apply sS | apply sA) (Ev.to (v' := .bool true) (Ev.move (.t rfl)) (congrArg Value.bool (by decide +kernel))) ?_
    refine takeg 9 rfl (by kernel_rfl) (by kernel_rfl) (by kernel_rfl) (by repeat first | exact sR | exact sN | apply sC | apply sS | apply sA) rfl rfl (Ev.load ty29 (.t rfl) (ptsVar (by repeat first | exact mH | apply mT | apply mA) (Lens.id _))) ?_
    refine takeg 10 rfl (by kernel_rfl) (by kernel_rfl) (by kernel_rfl) (by repeat first | exact sR | exact sN | apply sC | apply sS | apply sA) rfl rfl (Ev.buildS (fs := _) (places := [(0, 1), (1, 2), (3, 18), (21, 18), (39, 1), (40, 2), (42, 2)]) z31 rfl Try.underlying31 (by kernel_rfl) (.cons (.c (v := U8 4) rfl) (.cons (.g rfl id) .nil)) (Fills.cons SMatch.l_asks rfl (Fills.cons SMatch.l_dst rfl Fills.nil))) ?_
    refine all [7] (by kernel_rfl) (by decide) (.cons rfl ?_ .nil)
    refine (callg rfl rfl en30 (.cons (.c (v := I 8) rfl) .nil) (fun hg w I => ten_ok _ w) ?_)
    refine heldN_of (by repeat first | exact sR | exact sN | apply sC | apply sS | apply sA) ?_
    refine takeg 8 rfl (by kernel_rfl) (by kernel_rfl) (by kernel_rfl) (by repeat first | exact sR | exact sN | apply sC | apply sS | apply sA) rfl rfl (Ev.buildS (fs := _) (places := [(0, 1), (1, 2), (3, 18), (21, 18), (39, 1), (40, 2), (42, 2)]) z31 rfl Try.underlying31 (by kernel_rfl) (.cons (.c (v := U8 2) rfl) (.cons (.g rfl id) .nil)) (Fills.cons SMatch.l_asks rfl (Fills.cons SMatch.l_src rfl Fills.nil))) ?_
    refine all [11] (by kernel_rfl) (by decide) (.cons rfl ?_ .nil)
    refine (callg rfl rfl en27 (.cons (.g rfl id) (.cons (.g rfl id) .nil)) (fun hg w I => apart_ok _ _ w) ?_)
    refine heldN_of (by repeat first | exact sR | exact sN | apply sC | apply sS | apply sA) ?_
    refine take 12 rfl (by kernel_rfl) (by kernel_rfl) (by kernel_rfl) (by repeat first | exact sR | exact sN | apply sC | apply sS | apply sA) (Ev.pickA (.t rfl) (fun {_} h => by cases h; rfl) ⟨_, rfl⟩ (by intro h1 h; first | (rw [h] <;> rfl) | (rw [h1, h] <;> rfl) | (rw [h, h1] <;> rfl) | simp_all) (.c (v := .bool false) rfl)) ?_
    refine take 13 rfl (by kernel_rfl) (by kernel_rfl) (by kernel_rfl) (by repeat first | exact sR | exact sN | apply sC | apply sS | apply sA) (Ev.to (v' := .bool true) (Ev.move (.t rfl)) (congrArg Value.bool (by decide +kernel))) ?_
    refine takeg 14 rfl (by kernel_rfl) (by kernel_rfl) (by kernel_rfl) (by repeat first | exact sR | exact sN | apply sC | apply sS | apply sA) rfl rfl (Ev.load ty31 (.t rfl) (ptsVar (by repeat first | exact mH | apply mT | apply mA) (Lens.id _))) ?_
    refine takeg 15 rfl (by kernel_rfl) (by kernel_rfl) (by kernel_rfl) (by repeat first | exact sR | exact sN | apply sC | apply sS | apply sA) rfl rfl (Ev.load ty31 (.t rfl) (ptsVar (by repeat first | exact mH | apply mT | apply mA) (Lens.id _))) ?_
    refine all [16] (by kernel_rfl) (by decide) (.cons rfl ?_ .nil)
    refine (callg rfl rfl en27 (.cons (.g rfl id) (.cons (.g rfl id) .nil)) (fun hg w I => apart_ok _ _ w) ?_)
    refine heldN_of (by repeat first | exact sR | exact sN | apply sC | apply sS | apply sA) ?_
    refine take 17 rfl (by kernel_rfl) (by kernel_rfl) (by kernel_rfl) (by repeat first | exact sR | exact sN | apply sC | apply sS | apply sA) (Ev.pickA (.t rfl) (fun {_} h => by cases h; rfl) ⟨_, rfl⟩ (by intro h1 h; first | (rw [h] <;> rfl) | (rw [h1, h] <;> rfl) | (rw [h, h1] <;> rfl) | simp_all) (.c (v := .bool false) rfl)) ?_
    refine take 18 rfl (by kernel_rfl) (by kernel_rfl) (by kernel_rfl) (by repeat first | exact sR | exact sN | apply sC | apply sS | apply sA) (Ev.to (v' := .bool true) (Ev.assign (.t rfl)) (congrArg Value.bool (by decide +kernel))) ?_
    refine over (by kernel_rfl) ?_
    refine pN ?_
    refine seq ?_
    refine region ?_
    refine cons (opv (Ev.load ty31 (.t rfl) (ptsVar (by repeat first | exact mH | apply mT | apply mA) (Lens.id _))) ?_)
    refine cons (opv (Ev.load ty31 (.t rfl) (ptsVar (by repeat first | exact mH | apply mT | apply mA) (Lens.id _))) ?_)
    refine cons (opv (Ev.load ty31 (.t rfl) (ptsVar (by repeat first | exact mH | apply mT | apply mA) (Lens.id _))) ?_)
    refine cons (buildSlice (E := eMatch) Try.underlying41 ty31 z31 (.cons (.t rfl) (.cons (.t rfl) (.cons (.t rfl) .nil))) rfl rfl (fun v11 => ?_))
    refine cons (calln (X := Nat × List Res) (CompJ K3) (compV K3) (fun x => x.2) en16 (.cons (.t rfl) .nil) (fun w I => compile_ok _ K3 w (isSl_own (by repeat first | exact mH | apply mT | apply mA) w I)) (fun x1 hx1 => ?_))
    have hRR := hx1 K3_comp
    refine cons (opv (Ev.move (.t rfl)) ?_)
    refine cons (opv (Ev.to (v' := .pointer (some ⟨x1.1, 0, none⟩)) (Ev.extract (.t rfl) rfl) (by unfold ptrC; rw [ptrO_ok _ K3_comp])) ?_)
    refine cons (opv (Ev.to (v' := I 0) (Ev.extract (.t rfl) rfl) (by rw [K3_comp])) ?_)
    refine cons (opv (Ev.assign (.t rfl)) ?_)
    refine cons (opv (Ev.assign (.t rfl)) ?_)
    refine nil ?_
    refine pN ?_
    refine seq ?_
    refine region ?_
    refine cons (opv (Ev.move (.t rfl)) ?_)
    refine cons (opv (Ev.eql_i (.t rfl) (.c (v := I 0) rfl)) ?_)
    refine cons (opv (Ev.to (v' := .bool true) (Ev.move (.t rfl)) (congrArg Value.bool (by decide +kernel))) ?_)
    refine cons (opg rfl rfl (Ev.move (.t rfl)) ?_)
    refine cons (opg rfl rfl (Ev.buildS (fs := _) (places := [(0, 17), (17, 17), (34, 1), (35, 1), (36, 1), (37, 1), (38, 1), (39, 1), (40, 1), (41, 1), (42, 1)]) z35 rfl Try.underlying35 (by kernel_rfl) (.cons (.c (v := U8 17) rfl) .nil) (Fills.cons SHeader.l_proto rfl Fills.nil)) ?_)
    refine cons (callg rfl rfl en18 (.cons (.g rfl id) (.cons (.c (v := I 0) rfl) (.cons (.g rfl id) .nil))) (fun hg w I => first_ok _ K3 _ _ w (hRR w (fun r hr => (I.own r (by repeat first | exact List.mem_append_left _ hr | apply List.Mem.tail)).1))) ?_)
    refine cons (opg rfl rfl (Ev.eql_i (.g rfl id) (.c (v := I 0) rfl)) ?_)
    refine cons (opv (Ev.pickA (.t rfl) (fun {_} h => by cases h; rfl) ⟨_, rfl⟩ (by intro h1 h; first | (rw [h] <;> rfl) | (rw [h1, h] <;> rfl) | (rw [h, h1] <;> rfl) | simp_all) (.c (v := .bool false) rfl)) ?_)
    refine cons (opv (Ev.to (v' := .bool true) (Ev.move (.t rfl)) (congrArg Value.bool (by decide +kernel))) ?_)
    refine cons (opg rfl rfl (Ev.move (.t rfl)) ?_)
    refine cons (opg rfl rfl (Ev.buildS (fs := _) (places := [(0, 17), (17, 17), (34, 1), (35, 1), (36, 1), (37, 1), (38, 1), (39, 1), (40, 1), (41, 1), (42, 1)]) z35 rfl Try.underlying35 (by kernel_rfl) (.cons (.c (v := U8 6) rfl) .nil) (Fills.cons SHeader.l_proto rfl Fills.nil)) ?_)
    refine cons (callg rfl rfl en18 (.cons (.g rfl id) (.cons (.c (v := I 0) rfl) (.cons (.g rfl id) .nil))) (fun hg w I => first_ok _ K3 _ _ w (hRR w (fun r hr => (I.own r (by repeat first | exact List.mem_append_left _ hr | apply List.Mem.tail)).1))) ?_)
    refine cons (opg rfl rfl (Ev.eql_i (.g rfl id) (.c (v := I 1) rfl)) ?_)
    refine cons (opv (Ev.pickA (.t rfl) (fun {_} h => by cases h; rfl) ⟨_, rfl⟩ (by intro h1 h; first | (rw [h] <;> rfl) | (rw [h1, h] <;> rfl) | (rw [h, h1] <;> rfl) | simp_all) (.c (v := .bool false) rfl)) ?_)
    refine cons (opv (Ev.to (v' := .bool true) (Ev.move (.t rfl)) (congrArg Value.bool (by decide +kernel))) ?_)
    refine cons (opg rfl rfl (Ev.move (.t rfl)) ?_)
    refine cons (opgT rfl rfl rfl ?_)
    refine (callo en17 (.cons (.g rfl id) .nil) (fun w I => dead_ok _ K3 w (hRR w (fun r hr => (I.own r (by repeat first | exact List.mem_append_left _ hr | apply List.Mem.tail)).1)) (by decide)) (fun v12 => ?_))
    refine cons (opgT rfl rfl rfl ?_)
    refine (buildSlice (E := iE) Try.underlying46 ty3 z3 (.cons (.c (v := I 2) rfl) .nil) rfl rfl (fun v13 => ?_))
    refine cons (callg rfl rfl en23 (.cons (.t rfl) (.cons (.t rfl) .nil)) (fun hg w I => sameInts_ok _ _ _ _ w (by first | exact isSl_own (by repeat first | exact mH | apply mT | apply mA) w I | exact IsSl.keep0 (by assumption) I.keeps) (by first | exact isSl_own (by repeat first | exact mH | apply mT | apply mA) w I | exact IsSl.keep0 (by assumption) I.keeps)) ?_)
    refine cons (opv (Ev.pickA (.t rfl) (fun {_} h => by cases h; rfl) ⟨_, rfl⟩ (by intro h1 h; first | (rw [h] <;> rfl) | (rw [h1, h] <;> rfl) | (rw [h, h1] <;> rfl) | simp_all) (.c (v := .bool false) rfl)) ?_)
    refine cons (opv (Ev.to (v' := .bool true) (Ev.move (.t rfl)) (congrArg Value.bool (by decide +kernel))) ?_)
    refine cons (opg rfl rfl (Ev.move (.t rfl)) ?_)
    refine cons (callg rfl rfl en24 (.cons (.g rfl id) .nil) (fun hg w I => len_ok _ K3 w (hRR w (fun r hr => (I.own r (by repeat first | exact List.mem_append_left _ hr | apply List.Mem.tail)).1))) ?_)
    refine cons (opg rfl rfl (Ev.eql_i (.g rfl id) (.c (v := I 3) rfl)) ?_)
    refine cons (opv (Ev.pickA (.t rfl) (fun {_} h => by cases h; rfl) ⟨_, rfl⟩ (by intro h1 h; first | (rw [h] <;> rfl) | (rw [h1, h] <;> rfl) | (rw [h, h1] <;> rfl) | simp_all) (.c (v := .bool false) rfl)) ?_)
    refine cons (opv (Ev.to (v' := .bool true) (Ev.assign (.t rfl)) (congrArg Value.bool (by decide +kernel))) ?_)
    refine nil ?_
    refine pN ?_
    refine seq ?_
    refine region ?_
    refine cons (opv (Ev.assign (.c (v := (Go.Value.pointer none)) rfl)) ?_)
    refine nil ?_
    refine pN ?_
    refine seq ?_
    refine region ?_
    refine cons (opv (Ev.move (.t rfl)) ?_)
    refine cons (callv en24 (.cons (.t rfl) .nil) (fun w I => len0_ok w) ?_)
    refine cons (opv (Ev.eql_i (.t rfl) (.c (v := I 0) rfl)) ?_)
    refine cons (opv (Ev.to (v' := .bool true) (Ev.move (.t rfl)) (congrArg Value.bool (by decide +kernel))) ?_)
    refine cons (opg rfl rfl (Ev.move (.t rfl)) ?_)
    refine cons (opg rfl rfl (Ev.buildS (fs := _) (places := [(0, 17), (17, 17), (34, 1), (35, 1), (36, 1), (37, 1), (38, 1), (39, 1), (40, 1), (41, 1), (42, 1)]) z35 rfl Try.underlying35 (by kernel_rfl) .nil Fills.nil) ?_)
    refine cons (callg rfl rfl en18 (.cons (.g rfl id) (.cons (.c (v := I 0) rfl) (.cons (.g rfl id) .nil))) (fun hg w I => first0_ok _ _ w) ?_)
    refine cons (opg rfl rfl (Ev.eql_i (.g rfl id) (.c (v := I (-1)) rfl)) ?_)
    refine cons (opv (Ev.pickA (.t rfl) (fun {_} h => by cases h; rfl) ⟨_, rfl⟩ (by intro h1 h; first | (rw [h] <;> rfl) | (rw [h1, h] <;> rfl) | (rw [h, h1] <;> rfl) | simp_all) (.c (v := .bool false) rfl)) ?_)
    refine cons (opv (Ev.to (v' := .bool true) (Ev.move (.t rfl)) (congrArg Value.bool (by decide +kernel))) ?_)
    refine cons (opg rfl rfl (Ev.move (.t rfl)) ?_)
    refine cons (callg rfl rfl en17 (.cons (.g rfl id) .nil) (fun hg w I => dead0_ok w) ?_)
    refine cons (opg rfl rfl (Ev.len Try.underlying46 (.g rfl id) (fun w I => IsSl.nil iE w)) ?_)
    refine cons (opg rfl rfl (Ev.eql_i (.g rfl id) (.c (v := I 0) rfl)) ?_)
    refine cons (opv (Ev.pickA (.t rfl) (fun {_} h => by cases h; rfl) ⟨_, rfl⟩ (by intro h1 h; first | (rw [h] <;> rfl) | (rw [h1, h] <;> rfl) | (rw [h, h1] <;> rfl) | simp_all) (.c (v := .bool false) rfl)) ?_)
    refine cons (opv (Ev.to (v' := .bool true) (Ev.move (.t rfl)) (congrArg Value.bool (by decide +kernel))) ?_)
    refine cons (opg rfl rfl (Ev.buildS (fs := _) (places := [(0, 1), (1, 1)]) z66 rfl Try.underlying66 (by kernel_rfl) .nil Fills.nil) ?_)
    refine cons (opgT rfl rfl rfl ?_)
    refine (box (E := eRuleRules) (.g rfl id) (fun b14 => ?_))
    refine cons (opg rfl rfl (Ev.buildS (fs := _) (places := [(0, 17), (17, 17), (34, 1), (35, 1), (36, 1), (37, 1), (38, 1), (39, 1), (40, 1), (41, 1), (42, 1)]) z35 rfl Try.underlying35 (by kernel_rfl) .nil Fills.nil) ?_)
    refine cons (callg rfl rfl en18 (.cons (.t rfl) (.cons (.c (v := I 0) rfl) (.cons (.g rfl id) .nil))) (fun hg w I => first_ok _ [] _ _ w (rules_nil rfl (by repeat first | exact mH | apply mT | apply mA) w I)) ?_)
    refine cons (opg rfl rfl (Ev.eql_i (.g rfl id) (.c (v := I (-1)) rfl)) ?_)
    refine cons (opv (Ev.pickA (.t rfl) (fun {_} h => by cases h; rfl) ⟨_, rfl⟩ (by intro h1 h; first | (rw [h] <;> rfl) | (rw [h1, h] <;> rfl) | (rw [h, h1] <;> rfl) | simp_all) (.c (v := .bool false) rfl)) ?_)
    refine cons (opv (Ev.to (v' := .bool true) (Ev.move (.t rfl)) (congrArg Value.bool (by decide +kernel))) ?_)
    refine cons (opg rfl rfl (Ev.buildS (fs := _) (places := [(0, 1), (1, 1)]) z66 rfl Try.underlying66 (by kernel_rfl) .nil Fills.nil) ?_)
    refine cons (opgT rfl rfl rfl ?_)
    refine (box (E := eRuleRules) (.g rfl id) (fun b15 => ?_))
    refine cons (callg rfl rfl en24 (.cons (.t rfl) .nil) (fun hg w I => len_ok _ [] w (rules_nil rfl (by repeat first | exact mH | apply mT | apply mA) w I)) ?_)
    refine cons (opg rfl rfl (Ev.eql_i (.g rfl id) (.c (v := I 0) rfl)) ?_)
    refine cons (opv (Ev.pickA (.t rfl) (fun {_} h => by cases h; rfl) ⟨_, rfl⟩ (by intro h1 h; first | (rw [h] <;> rfl) | (rw [h1, h] <;> rfl) | (rw [h, h1] <;> rfl) | simp_all) (.c (v := .bool false) rfl)) ?_)
    refine cons (opv (Ev.to (v' := .bool true) (Ev.assign (.t rfl)) (congrArg Value.bool (by decide +kernel))) ?_)
    refine nil ?_
    refine pN ?_
    refine seq ?_
    refine region ?_
    refine cons (calln (X := Nat × List Res) (CompJ []) (compV []) (fun x => x.2) en16 (.cons (.c (v := (Go.Value.slice none 0 0)) rfl) .nil) (fun w I => compile_ok _ [] w (IsSl.nil _ w)) (fun x2 hx2 => ?_))
    have hRN := hx2 nil_comp
    refine cons (opv (Ev.move (.t rfl)) ?_)
    refine cons (opv (Ev.to (v' := .pointer (some ⟨x2.1, 0, none⟩)) (Ev.extract (.t rfl) rfl) (by unfold ptrC; rw [ptrO_ok _ nil_comp])) ?_)
    refine cons (opv (Ev.to (v' := I 0) (Ev.extract (.t rfl) rfl) (by rw [nil_comp])) ?_)
    refine cons (opv (Ev.assign (.t rfl)) ?_)
    refine cons (opv (Ev.assign (.t rfl)) ?_)
    refine nil ?_
    refine pN ?_
    refine seq ?_
    refine region ?_
    refine cons (opv (Ev.to (v' := .bool true) (Ev.move (.c (v := .bool true) rfl)) (congrArg Value.bool (by decide +kernel))) ?_)
    refine cons (callg rfl rfl en15 .nil (fun hg w I => works_ok w) ?_)
    refine cons (opv (Ev.pickA (.t rfl) (fun {_} h => by cases h; rfl) ⟨_, rfl⟩ (by intro h1 h; first | (rw [h] <;> rfl) | (rw [h1, h] <;> rfl) | (rw [h, h1] <;> rfl) | simp_all) (.c (v := .bool false) rfl)) ?_)
    refine cons (opv (Ev.to (v' := .bool true) (Ev.move (.t rfl)) (congrArg Value.bool (by decide +kernel))) ?_)
    refine cons (opg rfl rfl (Ev.move (.t rfl)) ?_)
    refine cons (opv (Ev.pickA (.t rfl) (fun {_} h => by cases h; rfl) ⟨_, rfl⟩ (by intro h1 h; first | (rw [h] <;> rfl) | (rw [h1, h] <;> rfl) | (rw [h, h1] <;> rfl) | simp_all) (.c (v := .bool false) rfl)) ?_)
    refine cons (opv (Ev.to (v' := .bool true) (Ev.move (.t rfl)) (congrArg Value.bool (by decide +kernel))) ?_)
    refine cons (opg rfl rfl (Ev.move (.t rfl)) ?_)
    refine cons (opv (Ev.pickA (.t rfl) (fun {_} h => by cases h; rfl) ⟨_, rfl⟩ (by intro h1 h; first | (rw [h] <;> rfl) | (rw [h1, h] <;> rfl) | (rw [h, h1] <;> rfl) | simp_all) (.c (v := .bool false) rfl)) ?_)
    refine cons (opv (Ev.to (v' := .bool true) (Ev.move (.t rfl)) (congrArg Value.bool (by decide +kernel))) ?_)
    refine cons (opg rfl rfl (Ev.move (.t rfl)) ?_)
    refine cons (opv (Ev.pickA (.t rfl) (fun {_} h => by cases h; rfl) ⟨_, rfl⟩ (by intro h1 h; first | (rw [h] <;> rfl) | (rw [h1, h] <;> rfl) | (rw [h, h1] <;> rfl) | simp_all) (.c (v := .bool false) rfl)) ?_)
    refine cons (opv (Ev.to (v' := .bool true) (Ev.move (.t rfl)) (congrArg Value.bool (by decide +kernel))) ?_)
    refine cons (opg rfl rfl (Ev.move (.t rfl)) ?_)
    refine cons (opv (Ev.pickA (.t rfl) (fun {_} h => by cases h; rfl) ⟨_, rfl⟩ (by intro h1 h; first | (rw [h] <;> rfl) | (rw [h1, h] <;> rfl) | (rw [h, h1] <;> rfl) | simp_all) (.c (v := .bool false) rfl)) ?_)
    refine cons (opv (Ev.to (v' := .bool true) (Ev.move (.t rfl)) (congrArg Value.bool (by decide +kernel))) ?_)
    refine cons (opg rfl rfl (Ev.move (.t rfl)) ?_)
    refine cons (opv (Ev.pickA (.t rfl) (fun {_} h => by cases h; rfl) ⟨_, rfl⟩ (by intro h1 h; first | (rw [h] <;> rfl) | (rw [h1, h] <;> rfl) | (rw [h, h1] <;> rfl) | simp_all) (.c (v := .bool false) rfl)) ?_)
    refine cons (opv (Ev.to (v' := .bool true) (Ev.move (.t rfl)) (congrArg Value.bool (by decide +kernel))) ?_)
    refine cons (opg rfl rfl (Ev.move (.t rfl)) ?_)
    refine cons (opg rfl rfl (Ev.eql_i (.g rfl id) (.c (v := I 0) rfl)) ?_)
    refine cons (opv (Ev.pickA (.t rfl) (fun {_} h => by cases h; rfl) ⟨_, rfl⟩ (by intro h1 h; first | (rw [h] <;> rfl) | (rw [h1, h] <;> rfl) | (rw [h, h1] <;> rfl) | simp_all) (.c (v := .bool false) rfl)) ?_)
    refine cons (opv (Ev.to (v' := .bool true) (Ev.move (.t rfl)) (congrArg Value.bool (by decide +kernel))) ?_)
    refine cons (opg rfl rfl (Ev.move (.t rfl)) ?_)
    refine cons (opg rfl rfl (Ev.neq_p Try.underlying43 (.g rfl id) (.c rfl)) ?_)
    refine cons (opv (Ev.pickA (.t rfl) (fun {_} h => by cases h; rfl) ⟨_, rfl⟩ (by intro h1 h; first | (rw [h] <;> rfl) | (rw [h1, h] <;> rfl) | (rw [h, h1] <;> rfl) | simp_all) (.c (v := .bool false) rfl)) ?_)
    refine cons (opv (Ev.to (v' := .bool true) (Ev.move (.t rfl)) (congrArg Value.bool rfl)) ?_)
    refine cons (opg rfl rfl (Ev.move (.t rfl)) ?_)
    refine cons (callg rfl rfl en24 (.cons (.g rfl id) .nil) (fun hg w I => len_ok _ [] w (hRN w (fun r hr => (I.own r (by repeat first | exact List.mem_append_left _ hr | apply List.Mem.tail)).1))) ?_)
    refine cons (opg rfl rfl (Ev.eql_i (.g rfl id) (.c (v := I 0) rfl)) ?_)
    refine cons (opv (Ev.pickA (.t rfl) (fun {_} h => by cases h; rfl) ⟨_, rfl⟩ (by intro h1 h; first | (rw [h] <;> rfl) | (rw [h1, h] <;> rfl) | (rw [h, h1] <;> rfl) | simp_all) (.c (v := .bool false) rfl)) ?_)
    refine cons (opv (Ev.to (v' := .bool true) (Ev.move (.t rfl)) (congrArg Value.bool (by decide +kernel))) ?_)
    refine cons (opg rfl rfl (Ev.move (.t rfl)) ?_)
    refine cons (opg rfl rfl (Ev.buildS (fs := _) (places := [(0, 17), (17, 17), (34, 1), (35, 1), (36, 1), (37, 1), (38, 1), (39, 1), (40, 1), (41, 1), (42, 1)]) z35 rfl Try.underlying35 (by kernel_rfl) .nil Fills.nil) ?_)
    refine cons (callg rfl rfl en18 (.cons (.g rfl id) (.cons (.c (v := I 0) rfl) (.cons (.g rfl id) .nil))) (fun hg w I => first_ok _ [] _ _ w (hRN w (fun r hr => (I.own r (by repeat first | exact List.mem_append_left _ hr | apply List.Mem.tail)).1))) ?_)
    refine cons (opg rfl rfl (Ev.eql_i (.g rfl id) (.c (v := I (-1)) rfl)) ?_)
    refine cons (opv (Ev.pickA (.t rfl) (fun {_} h => by cases h; rfl) ⟨_, rfl⟩ (by intro h1 h; first | (rw [h] <;> rfl) | (rw [h1, h] <;> rfl) | (rw [h, h1] <;> rfl) | simp_all) (.c (v := .bool false) rfl)) ?_)
    refine cons (opv (Ev.assign (.t rfl)) ?_)
    refine nil ?_
    refine pN ?_
    refine ret ?_
    refine done rfl (.tmp rfl .nil) (retE ?_)
    exact congrArg Value.bool (by decide +kernel)
end Go.Proofs.Ytkmdhmfgbgngeaa
