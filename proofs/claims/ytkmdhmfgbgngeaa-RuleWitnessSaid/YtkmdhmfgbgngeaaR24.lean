/- rule -/
import Derived.Test.YtkmdhmfgbgngeaaR23
set_option linter.unusedVariables false
set_option linter.unusedSimpArgs false
namespace Go.Proofs.Ytkmdhmfgbgngeaa
open Go Go.Gx

theorem bits_nonneg {m : SMatch} (hm : okM m = true) : 0 ≤ m.src.bits ∧ 0 ≤ m.dst.bits := by
  have om := Ok.of hm
  constructor
  · cases h : asksB m 2 with
    | true => exact ((checkP_zero _).1 (om.csrc h)).1
    | false => rw [om.src h]; exact Int.le_refl _
  · cases h : asksB m 4 with
    | true => exact ((checkP_zero _).1 (om.cdst h)).1
    | false => rw [om.dst h]; exact Int.le_refl _
def wB (m n : SMatch) (c : SLaw19Came) : Bool := usualB c && metB n c.in_ c.h && !metB m c.in_ c.h
def bB (m n : SMatch) (c : SLaw19Came) : Bool := usualB c && metB n c.in_ c.h && metB m c.in_ c.h
theorem any_snoc {α : Type} (l : List α) (f : α → Bool) (i : Int) (h0 : 0 ≤ i) (h1 : i < l.length) (z : α) : (l.take (i + 1).toNat).any f = ((l.take i.toNat).any f || f (l.getD i.toNat z)) := by
  rw [take_snoc l i h0 h1 z, List.any_append]
  simp

theorem en29 : Enters Try.prog 29 := Enters.mk' (by kernel_rfl)

theorem RuleWitness_walk (m n : SMatch) (w : World) : Calls Try.prog 9 #[eMatch.val m, eMatch.val n] w (RetV w (.bool true)) := by
  refine enter0 85 Try.func9 rfl rfl (Nat.le_of_ble_eq_true rfl) ?_
  refine seq ?_
  refine region ?_
  refine cons (box (E := eMatch) (.t rfl) (fun b1 => ?_))
  refine cons (box (E := eMatch) (.t rfl) (fun b2 => ?_))
  refine cons (opv (Ev.assign (.c (v := .bool false) rfl)) ?_)
  refine nil ?_
  refine pN ?_
  refine seq ?_
  refine seq ?_
  refine region ?_
  refine cons (callv en15 .nil (fun w I => works_ok w) ?_)
  refine cons (opv (Ev.not (.t rfl)) ?_)
  refine nil ?_
  refine pN ?_
  refine condF rfl (rfl) ?_
  refine skip ?_
  refine pN ?_
  refine seq ?_
  refine seq ?_
  refine region ?_
  refine cons (opv (Ev.load (xv := m) ty31 (.t rfl) (ptsVar (by repeat first | exact mH | apply mT | apply mA) (Lens.id _))) ?_)
  refine cons (callv en11 (.cons (.t rfl) .nil) (fun w I => rcheck_ok _ w) ?_)
  refine cons (opv (Ev.not (.t rfl)) ?_)
  refine cons (opv (Ev.move (.t rfl)) ?_)
  refine cons (opg rfl rfl (Ev.load (xv := n) ty31 (.t rfl) (ptsVar (by repeat first | exact mH | apply mT | apply mA) (Lens.id _))) ?_)
  refine cons (callg rfl rfl en11 (.cons (.g rfl id) .nil) (fun hg w I => rcheck_ok _ w) ?_)
  refine cons (opg rfl rfl (Ev.not (.g rfl id)) ?_)
  refine cons (opv (Ev.pickO (.t rfl) (.c (v := .bool true) rfl) (fun {_} h => by cases h; rfl) ⟨_, rfl⟩ (by intro h1 h; first | (rw [h] <;> rfl) | (rw [h1, h] <;> rfl) | (rw [h, h1] <;> rfl) | simp_all)) ?_)
  refine nil ?_
  refine pN ?_
  first | refine condD rfl (fun h1 => ?_) (fun h1 => ?_) | refine cond rfl (fun h1 => ?_) (fun h1 => ?_)
  · try simp only [Bool.and_eq_true, Bool.or_eq_true, Bool.or_eq_false_iff, Bool.and_eq_false_iff, Bool.not_eq_true', Bool.not_eq_false', decide_eq_true_eq, decide_eq_false_iff_not, Decidable.not_not] at h1
    have hbad : (okM m && okM n) = false := by cases ha : okM m <;> cases hb : okM n <;> simp_all
    refine seq ?_
    refine region ?_
    refine cons (opv (Ev.load (xv := m) ty31 (.t rfl) (ptsVar (by repeat first | exact mH | apply mT | apply mA) (Lens.id _))) ?_)
    refine cons (opv (Ev.load (xv := n) ty31 (.t rfl) (ptsVar (by repeat first | exact mH | apply mT | apply mA) (Lens.id _))) ?_)
    refine cons (callv en25 (.cons (.t rfl) (.cons (.t rfl) .nil)) (fun w I => covers_ok _ _ w) ?_)
    refine cons (opv (Ev.not (.t rfl)) ?_)
    refine cons (opv (Ev.move (.t rfl)) ?_)
    refine cons (opg rfl rfl (Ev.load (xv := m) ty31 (.t rfl) (ptsVar (by repeat first | exact mH | apply mT | apply mA) (Lens.id _))) ?_)
    refine cons (opg rfl rfl (Ev.load (xv := n) ty31 (.t rfl) (ptsVar (by repeat first | exact mH | apply mT | apply mA) (Lens.id _))) ?_)
    refine cons (callg rfl rfl en27 (.cons (.g rfl id) (.cons (.g rfl id) .nil)) (fun hg w I => apart_ok _ _ w) ?_)
    refine cons (opg rfl rfl (Ev.not (.g rfl id)) ?_)
    refine cons (opv (Ev.pickA (.t rfl) (fun {_} h => by cases h; rfl) ⟨_, rfl⟩ (by intro h1 h; first | (rw [h] <;> rfl) | (rw [h1, h] <;> rfl) | (rw [h, h1] <;> rfl) | simp_all) (.c (v := .bool false) rfl)) ?_)
    refine cons (opv (Ev.assign (.t rfl)) ?_)
    refine nil ?_
    refine pN ?_
    refine ret ?_
    refine pR ?_
    refine done rfl (.tmp rfl .nil) (retE ?_)
    have e1 : coversM m n = false := by unfold coversM; rw [hbad]; rfl
    have e2 : apartM m n = false := by unfold apartM; rw [hbad]; rfl
    rw [e1, e2]; rfl
  · try simp only [Bool.and_eq_true, Bool.or_eq_true, Bool.or_eq_false_iff, Bool.and_eq_false_iff, Bool.not_eq_true', Bool.not_eq_false', decide_eq_true_eq, decide_eq_false_iff_not, Decidable.not_not] at h1
    have hm : okM m = true := by simpa using h1.1
    have hn : okM n = true := by simpa using h1.2
    obtain ⟨hl1, hl2⟩ := witness_law hm hn
    have hcl := cornersL_len m n
    refine skip ?_
    refine pN ?_
    refine seq ?_
    refine region ?_
    refine cons (opv (Ev.assign (.c (v := .bool false) rfl)) ?_)
    refine cons (opv (Ev.assign (.c (v := .bool false) rfl)) ?_)
    refine nil ?_
    refine pN ?_
    refine seq ?_
    refine region ?_
    refine cons (opv (Ev.load (xv := m) ty31 (.t rfl) (ptsVar (by repeat first | exact mH | apply mT | apply mA) (Lens.id _))) ?_)
    refine cons (opv (Ev.load (xv := n) ty31 (.t rfl) (ptsVar (by repeat first | exact mH | apply mT | apply mA) (Lens.id _))) ?_)
    refine cons (callo en29 (.cons (.t rfl) (.cons (.t rfl) .nil)) (fun w I => corners_ok m n w ⟨(bits_nonneg hm).1, (bits_nonneg hm).2, (bits_nonneg hn).1, (bits_nonneg hn).2⟩) (fun v3 => ?_))
    refine cons (opv (Ev.assign (.t rfl)) ?_)
    refine nil ?_
    refine pN ?_
    refine seq ?_
    refine seq ?_
    refine region ?_
    refine cons (opv (Ev.assign (.c (v := I 0) rfl)) ?_)
    refine nil ?_
    refine pN ?_
    refine block ?_
    refine loop (X := Int × Bool × Bool) (fun x : Int × Bool × Bool => (0 ≤ x.1 ∧ x.1 ≤ (cornersL m n).length) ∧ (x.2.1 = ((cornersL m n).take x.1.toNat).any (wB m n)) ∧ (x.2.2 = ((cornersL m n).take x.1.toNat).any (bB m n))) (fun x : Int × Bool × Bool => [(2, true, .pointer (some ⟨b1, 0, none⟩)), (3, true, .pointer (some ⟨b2, 0, none⟩)), (5, true, .bool x.2.1), (6, true, .bool x.2.2), (7, true, v3.v), (8, true, I x.1)]) (fun x : Int × Bool × Bool => [OwnS v3.v eLaw19Came (cornersL m n) 49, Var b2 eMatch n 31, Var b1 eMatch m 31]) (fun x : Int × Bool × Bool => ((cornersL m n).length - x.1).toNat) (0, false, false) ⟨?_, ?_, ?_⟩ (by repeat first | exact Sub.nil | refine Sub.cons rfl ?_) (by repeat first | exact sR | exact sN | apply sC | apply sS | apply sA) (fun x hx => ?_)
    · omega
    · rfl
    · rfl
    obtain ⟨i, wo, bo⟩ := x
    obtain ⟨hi, hw, hbo⟩ : (0 ≤ i ∧ i ≤ (cornersL m n).length) ∧ (wo = ((cornersL m n).take i.toNat).any (wB m n)) ∧ (bo = ((cornersL m n).take i.toNat).any (bB m n)) := hx
    show Sat _ _ [(2, true, .pointer (some ⟨b1, 0, none⟩)), (3, true, .pointer (some ⟨b2, 0, none⟩)), (5, true, .bool wo), (6, true, .bool bo), (7, true, v3.v), (8, true, I i)] [OwnS v3.v eLaw19Came (cornersL m n) 49, Var b2 eMatch n 31, Var b1 eMatch m 31]
    refine seq ?_
    refine seq ?_
    refine region ?_
    refine cons (opv (Ev.move (.t rfl)) ?_)
    refine cons (opv (Ev.move (.t rfl)) ?_)
    refine cons (opv (Ev.len Try.underlying42 (.t rfl) (by first | exact isSl_own (by repeat first | exact mH | apply mT | apply mA) | exact fun w I => IsSl.keep0 (by assumption) I.keeps)) ?_)
    refine cons (opv (Ev.lss_i (.t rfl) (.t rfl)) ?_)
    refine nil ?_
    refine pN ?_
    first | refine condD rfl (fun hlt => ?_) (fun hge => ?_) | refine cond rfl (fun hlt => ?_) (fun hge => ?_)
    · try simp only [Bool.and_eq_true, Bool.or_eq_true, Bool.or_eq_false_iff, Bool.and_eq_false_iff, Bool.not_eq_true', Bool.not_eq_false', decide_eq_true_eq, decide_eq_false_iff_not, Decidable.not_not] at hlt
      refine skip ?_
      refine pN ?_
      refine seq ?_
      refine block ?_
      refine seq ?_
      refine seq ?_
      refine draw' (by kernel_rfl) ?_
      refine take 0 rfl (by kernel_rfl) (by kernel_rfl) (by kernel_rfl) (by repeat first | exact sR | exact sN | apply sC | apply sS | apply sA) (Ev.move (.t rfl)) ?_
      refine take 1 rfl (by kernel_rfl) (by kernel_rfl) (by kernel_rfl) (by repeat first | exact sR | exact sN | apply sC | apply sS | apply sA) (Ev.move (.t rfl)) ?_
      refine take 2 rfl (by kernel_rfl) (by kernel_rfl) (by kernel_rfl) (by repeat first | exact sR | exact sN | apply sC | apply sS | apply sA) (Ev.indexAddr Try.underlying42 ty49 (.t rfl) (.t rfl) (by first | exact isSl_own (by repeat first | exact mH | apply mT | apply mA) | exact fun w I => IsSl.keep0 (by assumption) I.keeps) (fun _ => by omega)) ?_
      refine take 3 rfl (by kernel_rfl) (by kernel_rfl) (by kernel_rfl) (by repeat first | exact sR | exact sN | apply sC | apply sS | apply sA) (Ev.loadS0 ty49 (.t rfl) (by first | exact isSl_own (by repeat first | exact mH | apply mT | apply mA) | exact fun w I => IsSl.keep0 (by assumption) I.keeps) (fun _ => by omega)) ?_
      refine all [4] (by kernel_rfl) (by decide) (.cons rfl ?_ .nil)
      refine (callv en19 (.cons (.t rfl) .nil) (fun w I => usual_ok _ w) ?_)
      refine heldN_of (by repeat first | exact sR | exact sN | apply sC | apply sS | apply sA) ?_
      refine take 5 rfl (by kernel_rfl) (by kernel_rfl) (by kernel_rfl) (by repeat first | exact sR | exact sN | apply sC | apply sS | apply sA) (Ev.not (.t rfl)) ?_
      refine take 6 rfl (by kernel_rfl) (by kernel_rfl) (by kernel_rfl) (by repeat first | exact sR | exact sN | apply sC | apply sS | apply sA) (Ev.move (.t rfl)) ?_
      refine takeg 7 rfl (by kernel_rfl) (by kernel_rfl) (by kernel_rfl) (by repeat first | exact sR | exact sN | apply sC | apply sS | apply sA) rfl rfl (Ev.load (xv := n) ty31 (.t rfl) (ptsVar (by repeat first | exact mH | apply mT | apply mA) (Lens.id _))) ?_
      refine takeg 8 rfl (by kernel_rfl) (by kernel_rfl) (by kernel_rfl) (by repeat first | exact sR | exact sN | apply sC | apply sS | apply sA) rfl rfl (Ev.move (.t rfl)) ?_
      refine takeg 9 rfl (by kernel_rfl) (by kernel_rfl) (by kernel_rfl) (by repeat first | exact sR | exact sN | apply sC | apply sS | apply sA) rfl rfl (Ev.move (.t rfl)) ?_
      refine takeg 10 rfl (by kernel_rfl) (by kernel_rfl) (by kernel_rfl) (by repeat first | exact sR | exact sN | apply sC | apply sS | apply sA) rfl rfl (Ev.indexAddr Try.underlying42 ty49 (.g rfl id) (.g rfl id) (by first | exact isSl_own (by repeat first | exact mH | apply mT | apply mA) | exact fun w I => IsSl.keep0 (by assumption) I.keeps) (fun _ => by first | omega | (rename_i hg; simp at hg; omega))) ?_
      refine takeg 11 rfl (by kernel_rfl) (by kernel_rfl) (by kernel_rfl) (by repeat first | exact sR | exact sN | apply sC | apply sS | apply sA) rfl rfl (Ev.fieldAddrS (o := 0) (i := i) (.g rfl id) (by first | exact isSl_own (by repeat first | exact mH | apply mT | apply mA) | exact fun w I => IsSl.keep0 (by assumption) I.keeps) (fun _ => by first | omega | (rename_i hg; simp at hg; omega)) (by kernel_rfl)) ?_
      refine takeg 12 rfl (by kernel_rfl) (by kernel_rfl) (by kernel_rfl) (by repeat first | exact sR | exact sN | apply sC | apply sS | apply sA) rfl rfl (Ev.loadS ty3 SLaw19Came.l_in_ rfl (.g rfl id) (by first | exact isSl_own (by repeat first | exact mH | apply mT | apply mA) | exact fun w I => IsSl.keep0 (by assumption) I.keeps) (fun _ => by first | omega | (rename_i hg; simp at hg; omega))) ?_
      refine takeg 13 rfl (by kernel_rfl) (by kernel_rfl) (by kernel_rfl) (by repeat first | exact sR | exact sN | apply sC | apply sS | apply sA) rfl rfl (Ev.move (.t rfl)) ?_
      refine takeg 14 rfl (by kernel_rfl) (by kernel_rfl) (by kernel_rfl) (by repeat first | exact sR | exact sN | apply sC | apply sS | apply sA) rfl rfl (Ev.move (.t rfl)) ?_
      refine takeg 15 rfl (by kernel_rfl) (by kernel_rfl) (by kernel_rfl) (by repeat first | exact sR | exact sN | apply sC | apply sS | apply sA) rfl rfl (Ev.indexAddr Try.underlying42 ty49 (.g rfl id) (.g rfl id) (by first | exact isSl_own (by repeat first | exact mH | apply mT | apply mA) | exact fun w I => IsSl.keep0 (by assumption) I.keeps) (fun _ => by first | omega | (rename_i hg; simp at hg; omega))) ?_
      refine takeg 16 rfl (by kernel_rfl) (by kernel_rfl) (by kernel_rfl) (by repeat first | exact sR | exact sN | apply sC | apply sS | apply sA) rfl rfl (Ev.fieldAddrS (o := 1) (i := i) (.g rfl id) (by first | exact isSl_own (by repeat first | exact mH | apply mT | apply mA) | exact fun w I => IsSl.keep0 (by assumption) I.keeps) (fun _ => by first | omega | (rename_i hg; simp at hg; omega)) (by kernel_rfl)) ?_
      refine takeg 17 rfl (by kernel_rfl) (by kernel_rfl) (by kernel_rfl) (by repeat first | exact sR | exact sN | apply sC | apply sS | apply sA) rfl rfl (Ev.loadS ty35 SLaw19Came.l_h rfl (.g rfl id) (by first | exact isSl_own (by repeat first | exact mH | apply mT | apply mA) | exact fun w I => IsSl.keep0 (by assumption) I.keeps) (fun _ => by first | omega | (rename_i hg; simp at hg; omega))) ?_
      refine all [18] (by kernel_rfl) (by decide) (.cons rfl ?_ .nil)
      refine (callg rfl rfl en13 (.cons (.g rfl id) (.cons (.g rfl id) (.cons (.g rfl id) .nil))) (fun hg w I => meets_ok _ _ _ w) ?_)
      refine heldN_of (by repeat first | exact sR | exact sN | apply sC | apply sS | apply sA) ?_
      refine takeg 19 rfl (by kernel_rfl) (by kernel_rfl) (by kernel_rfl) (by repeat first | exact sR | exact sN | apply sC | apply sS | apply sA) rfl rfl (Ev.not (.g rfl id)) ?_
      refine take 20 rfl (by kernel_rfl) (by kernel_rfl) (by kernel_rfl) (by repeat first | exact sR | exact sN | apply sC | apply sS | apply sA) (Ev.pickO (.t rfl) (.c (v := .bool true) rfl) (fun {_} h => by cases h; rfl) ⟨_, rfl⟩ (by intro h1 h; first | (rw [h] <;> rfl) | (rw [h1, h] <;> rfl) | (rw [h, h1] <;> rfl) | simp_all)) ?_
      refine over (by kernel_rfl) ?_
      refine pN ?_
      first | refine condD rfl (fun h3 => ?_) (fun h3 => ?_) | refine cond rfl (fun h3 => ?_) (fun h3 => ?_)
      · have hskip : ¬ usualB ((cornersL m n).getD i.toNat eLaw19Came.zero) = true ∨ ¬ metB n ((cornersL m n).getD i.toNat eLaw19Came.zero).in_ ((cornersL m n).getD i.toNat eLaw19Came.zero).h = true := by
          have k : (!usualB ((cornersL m n).getD i.toNat eLaw19Came.zero) || !meetsB n ((cornersL m n).getD i.toNat eLaw19Came.zero).in_ ((cornersL m n).getD i.toNat eLaw19Came.zero).h) = true := h3
          unfold meetsB at k
          rw [hn] at k
          simpa using k
        refine exit ?_
        refine pX ?_
        refine bX ?_
        refine pN ?_
        refine region ?_
        refine cons (opv (Ev.move (.t rfl)) ?_)
        refine cons (opv (Ev.add_i (.t rfl) (.c (v := I 1) rfl) (fun _ => by omega)) ?_)
        refine cons (opv (Ev.assign (.t rfl)) ?_)
        refine nil ?_
        refine pN ?_
        refine next (X := Int × Bool × Bool) (i + 1, _, _) ⟨?_, ?_, ?_⟩ ?_ (by repeat first | exact Sub.nil | refine Sub.cons rfl ?_) (by repeat first | exact sR | exact sN | apply sC | apply sS | apply sA)
        · try dsimp only
          omega
        · try dsimp only
          rw [any_snoc _ _ i hi.1 (by omega) eLaw19Came.zero, ← hw]
          first
            | (have k3 : ¬ usualB ((cornersL m n).getD i.toNat eLaw19Came.zero) = true ∨ ¬ metB n ((cornersL m n).getD i.toNat eLaw19Came.zero).in_ ((cornersL m n).getD i.toNat eLaw19Came.zero).h = true := hskip
               unfold wB
               rcases k3 with k | k
               · rw [Bool.eq_false_iff.2 k]; simp
               · rw [Bool.eq_false_iff.2 k]; simp)
            | (unfold wB
               rw [hgo.1, hgo.2, hmet]; simp)
        · try dsimp only
          rw [any_snoc _ _ i hi.1 (by omega) eLaw19Came.zero, ← hbo]
          first
            | (have k3 : ¬ usualB ((cornersL m n).getD i.toNat eLaw19Came.zero) = true ∨ ¬ metB n ((cornersL m n).getD i.toNat eLaw19Came.zero).in_ ((cornersL m n).getD i.toNat eLaw19Came.zero).h = true := hskip
               unfold bB
               rcases k3 with k | k
               · rw [Bool.eq_false_iff.2 k]; simp
               · rw [Bool.eq_false_iff.2 k]; simp)
            | (unfold bB
               rw [hgo.1, hgo.2, hmet]; simp)
        · try dsimp only
          omega
      · have hgo : usualB ((cornersL m n).getD i.toNat eLaw19Came.zero) = true ∧ metB n ((cornersL m n).getD i.toNat eLaw19Came.zero).in_ ((cornersL m n).getD i.toNat eLaw19Came.zero).h = true := by
          have k : (!usualB ((cornersL m n).getD i.toNat eLaw19Came.zero) || !meetsB n ((cornersL m n).getD i.toNat eLaw19Came.zero).in_ ((cornersL m n).getD i.toNat eLaw19Came.zero).h) = false := by simpa using h3
          unfold meetsB at k
          rw [hn] at k
          simpa using k
        refine skip ?_
        refine pN ?_
        refine seq ?_
        refine draw' (by kernel_rfl) ?_
        refine take 0 rfl (by kernel_rfl) (by kernel_rfl) (by kernel_rfl) (by repeat first | exact sR | exact sN | apply sC | apply sS | apply sA) (Ev.load (xv := m) ty31 (.t rfl) (ptsVar (by repeat first | exact mH | apply mT | apply mA) (Lens.id _))) ?_
        refine take 1 rfl (by kernel_rfl) (by kernel_rfl) (by kernel_rfl) (by repeat first | exact sR | exact sN | apply sC | apply sS | apply sA) (Ev.move (.t rfl)) ?_
        refine take 2 rfl (by kernel_rfl) (by kernel_rfl) (by kernel_rfl) (by repeat first | exact sR | exact sN | apply sC | apply sS | apply sA) (Ev.move (.t rfl)) ?_
        refine take 3 rfl (by kernel_rfl) (by kernel_rfl) (by kernel_rfl) (by repeat first | exact sR | exact sN | apply sC | apply sS | apply sA) (Ev.indexAddr Try.underlying42 ty49 (.t rfl) (.t rfl) (by first | exact isSl_own (by repeat first | exact mH | apply mT | apply mA) | exact fun w I => IsSl.keep0 (by assumption) I.keeps) (fun _ => by omega)) ?_
        refine take 4 rfl (by kernel_rfl) (by kernel_rfl) (by kernel_rfl) (by repeat first | exact sR | exact sN | apply sC | apply sS | apply sA) (Ev.fieldAddrS (o := 0) (i := i) (.t rfl) (by first | exact isSl_own (by repeat first | exact mH | apply mT | apply mA) | exact fun w I => IsSl.keep0 (by assumption) I.keeps) (fun _ => by omega) (by kernel_rfl)) ?_
        refine take 5 rfl (by kernel_rfl) (by kernel_rfl) (by kernel_rfl) (by repeat first | exact sR | exact sN | apply sC | apply sS | apply sA) (Ev.loadS ty3 SLaw19Came.l_in_ rfl (.t rfl) (by first | exact isSl_own (by repeat first | exact mH | apply mT | apply mA) | exact fun w I => IsSl.keep0 (by assumption) I.keeps) (fun _ => by omega)) ?_
        refine take 6 rfl (by kernel_rfl) (by kernel_rfl) (by kernel_rfl) (by repeat first | exact sR | exact sN | apply sC | apply sS | apply sA) (Ev.move (.t rfl)) ?_
        refine take 7 rfl (by kernel_rfl) (by kernel_rfl) (by kernel_rfl) (by repeat first | exact sR | exact sN | apply sC | apply sS | apply sA) (Ev.move (.t rfl)) ?_
        refine take 8 rfl (by kernel_rfl) (by kernel_rfl) (by kernel_rfl) (by repeat first | exact sR | exact sN | apply sC | apply sS | apply sA) (Ev.indexAddr Try.underlying42 ty49 (.t rfl) (.t rfl) (by first | exact isSl_own (by repeat first | exact mH | apply mT | apply mA) | exact fun w I => IsSl.keep0 (by assumption) I.keeps) (fun _ => by omega)) ?_
        refine take 9 rfl (by kernel_rfl) (by kernel_rfl) (by kernel_rfl) (by repeat first | exact sR | exact sN | apply sC | apply sS | apply sA) (Ev.fieldAddrS (o := 1) (i := i) (.t rfl) (by first | exact isSl_own (by repeat first | exact mH | apply mT | apply mA) | exact fun w I => IsSl.keep0 (by assumption) I.keeps) (fun _ => by omega) (by kernel_rfl)) ?_
        refine take 10 rfl (by kernel_rfl) (by kernel_rfl) (by kernel_rfl) (by repeat first | exact sR | exact sN | apply sC | apply sS | apply sA) (Ev.loadS ty35 SLaw19Came.l_h rfl (.t rfl) (by first | exact isSl_own (by repeat first | exact mH | apply mT | apply mA) | exact fun w I => IsSl.keep0 (by assumption) I.keeps) (fun _ => by omega)) ?_
        refine all [11] (by kernel_rfl) (by decide) (.cons rfl ?_ .nil)
        refine (callv en13 (.cons (.t rfl) (.cons (.t rfl) (.cons (.t rfl) .nil))) (fun w I => meets_ok _ _ _ w) ?_)
        refine heldN_of (by repeat first | exact sR | exact sN | apply sC | apply sS | apply sA) ?_
        refine over (by kernel_rfl) ?_
        refine pN ?_
        first | refine condD rfl (fun h4 => ?_) (fun h4 => ?_) | refine cond rfl (fun h4 => ?_) (fun h4 => ?_)
        · have hmet : metB m ((cornersL m n).getD i.toNat eLaw19Came.zero).in_ ((cornersL m n).getD i.toNat eLaw19Came.zero).h = true := by
            have k : meetsB m ((cornersL m n).getD i.toNat eLaw19Came.zero).in_ ((cornersL m n).getD i.toNat eLaw19Came.zero).h = true := h4
            unfold meetsB at k
            rw [hm] at k
            simpa using k
          refine region ?_
          refine cons (opv (Ev.assign (.c (v := .bool true) rfl)) ?_)
          refine nil ?_
          refine bN ?_
          refine pN ?_
          refine region ?_
          refine cons (opv (Ev.move (.t rfl)) ?_)
          refine cons (opv (Ev.add_i (.t rfl) (.c (v := I 1) rfl) (fun _ => by omega)) ?_)
          refine cons (opv (Ev.assign (.t rfl)) ?_)
          refine nil ?_
          refine pN ?_
          refine next (X := Int × Bool × Bool) (i + 1, _, _) ⟨?_, ?_, ?_⟩ ?_ (by repeat first | exact Sub.nil | refine Sub.cons rfl ?_) (by repeat first | exact sR | exact sN | apply sC | apply sS | apply sA)
          · try dsimp only
            omega
          · try dsimp only
            rw [any_snoc _ _ i hi.1 (by omega) eLaw19Came.zero, ← hw]
            first
              | (have k3 : ¬ usualB ((cornersL m n).getD i.toNat eLaw19Came.zero) = true ∨ ¬ metB n ((cornersL m n).getD i.toNat eLaw19Came.zero).in_ ((cornersL m n).getD i.toNat eLaw19Came.zero).h = true := hskip
                 unfold wB
                 rcases k3 with k | k
                 · rw [Bool.eq_false_iff.2 k]; simp
                 · rw [Bool.eq_false_iff.2 k]; simp)
              | (unfold wB
                 rw [hgo.1, hgo.2, hmet]; simp)
          · try dsimp only
            rw [any_snoc _ _ i hi.1 (by omega) eLaw19Came.zero, ← hbo]
            first
              | (have k3 : ¬ usualB ((cornersL m n).getD i.toNat eLaw19Came.zero) = true ∨ ¬ metB n ((cornersL m n).getD i.toNat eLaw19Came.zero).in_ ((cornersL m n).getD i.toNat eLaw19Came.zero).h = true := hskip
                 unfold bB
                 rcases k3 with k | k
                 · rw [Bool.eq_false_iff.2 k]; simp
                 · rw [Bool.eq_false_iff.2 k]; simp)
              | (unfold bB
                 rw [hgo.1, hgo.2, hmet]; simp)
          · try dsimp only
            omega
        · have hmet : metB m ((cornersL m n).getD i.toNat eLaw19Came.zero).in_ ((cornersL m n).getD i.toNat eLaw19Came.zero).h = false := by
            have k : meetsB m ((cornersL m n).getD i.toNat eLaw19Came.zero).in_ ((cornersL m n).getD i.toNat eLaw19Came.zero).h = false := by simpa using h4
            unfold meetsB at k
            rw [hm] at k
            simpa using k
          refine region ?_
          refine cons (opv (Ev.assign (.c (v := .bool true) rfl)) ?_)
          refine nil ?_
          refine bN ?_
          refine pN ?_
          refine region ?_
          refine cons (opv (Ev.move (.t rfl)) ?_)
          refine cons (opv (Ev.add_i (.t rfl) (.c (v := I 1) rfl) (fun _ => by omega)) ?_)
          refine cons (opv (Ev.assign (.t rfl)) ?_)
          refine nil ?_
          refine pN ?_
          refine next (X := Int × Bool × Bool) (i + 1, _, _) ⟨?_, ?_, ?_⟩ ?_ (by repeat first | exact Sub.nil | refine Sub.cons rfl ?_) (by repeat first | exact sR | exact sN | apply sC | apply sS | apply sA)
          · try dsimp only
            omega
          · try dsimp only
            rw [any_snoc _ _ i hi.1 (by omega) eLaw19Came.zero, ← hw]
            first
              | (have k3 : ¬ usualB ((cornersL m n).getD i.toNat eLaw19Came.zero) = true ∨ ¬ metB n ((cornersL m n).getD i.toNat eLaw19Came.zero).in_ ((cornersL m n).getD i.toNat eLaw19Came.zero).h = true := hskip
                 unfold wB
                 rcases k3 with k | k
                 · rw [Bool.eq_false_iff.2 k]; simp
                 · rw [Bool.eq_false_iff.2 k]; simp)
              | (unfold wB
                 rw [hgo.1, hgo.2, hmet]; simp)
          · try dsimp only
            rw [any_snoc _ _ i hi.1 (by omega) eLaw19Came.zero, ← hbo]
            first
              | (have k3 : ¬ usualB ((cornersL m n).getD i.toNat eLaw19Came.zero) = true ∨ ¬ metB n ((cornersL m n).getD i.toNat eLaw19Came.zero).in_ ((cornersL m n).getD i.toNat eLaw19Came.zero).h = true := hskip
                 unfold bB
                 rcases k3 with k | k
                 · rw [Bool.eq_false_iff.2 k]; simp
                 · rw [Bool.eq_false_iff.2 k]; simp)
              | (unfold bB
                 rw [hgo.1, hgo.2, hmet]; simp)
          · try dsimp only
            omega
    · try simp only [Bool.and_eq_true, Bool.or_eq_true, Bool.or_eq_false_iff, Bool.and_eq_false_iff, Bool.not_eq_true', Bool.not_eq_false', decide_eq_true_eq, decide_eq_false_iff_not, Decidable.not_not] at hge
      rw [take_len _ i (by omega)] at hw hbo
      refine exit ?_
      refine pX ?_
      refine pX ?_
      refine bX ?_
      refine pN ?_
      refine seq ?_
      refine region ?_
      refine cons (opv (Ev.load (xv := m) ty31 (.t rfl) (ptsVar (by repeat first | exact mH | apply mT | apply mA) (Lens.id _))) ?_)
      refine cons (opv (Ev.load (xv := n) ty31 (.t rfl) (ptsVar (by repeat first | exact mH | apply mT | apply mA) (Lens.id _))) ?_)
      refine cons (callv en25 (.cons (.t rfl) (.cons (.t rfl) .nil)) (fun w I => covers_ok _ _ w) ?_)
      refine cons (opv (Ev.move (.t rfl)) ?_)
      refine cons (opv (Ev.not (.t rfl)) ?_)
      refine cons (opv (Ev.eql_b Try.underlying4 (.t rfl) (.t rfl)) ?_)
      refine cons (opv (Ev.move (.t rfl)) ?_)
      refine cons (opg rfl rfl (Ev.load (xv := m) ty31 (.t rfl) (ptsVar (by repeat first | exact mH | apply mT | apply mA) (Lens.id _))) ?_)
      refine cons (opg rfl rfl (Ev.load (xv := n) ty31 (.t rfl) (ptsVar (by repeat first | exact mH | apply mT | apply mA) (Lens.id _))) ?_)
      refine cons (callg rfl rfl en27 (.cons (.g rfl id) (.cons (.g rfl id) .nil)) (fun hg w I => apart_ok _ _ w) ?_)
      refine cons (opg rfl rfl (Ev.move (.t rfl)) ?_)
      refine cons (opg rfl rfl (Ev.not (.g rfl id)) ?_)
      refine cons (opg rfl rfl (Ev.eql_b Try.underlying4 (.g rfl id) (.g rfl id)) ?_)
      refine cons (opv (Ev.pickA (.t rfl) (fun {_} h => by cases h; rfl) ⟨_, rfl⟩ (by intro h1 h; first | (rw [h] <;> rfl) | (rw [h1, h] <;> rfl) | (rw [h, h1] <;> rfl) | simp_all) (.c (v := .bool false) rfl)) ?_)
      refine cons (opv (Ev.assign (.t rfl)) ?_)
      refine nil ?_
      refine pN ?_
      refine ret ?_
      refine done rfl (.tmp rfl .nil) (retE ?_)
      have e1 : coversM m n = !wo := by rw [hl1, hw]; rfl
      have e2 : apartM m n = !bo := by rw [hl2, hbo]; rfl
      rw [e1, e2]
      simp
end Go.Proofs.Ytkmdhmfgbgngeaa
