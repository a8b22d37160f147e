/- rule -/
import Derived.Test.YtkmdhmfgbgngeaaR17
set_option linter.unusedVariables false
set_option linter.unusedSimpArgs false
namespace Go.Proofs.Ytkmdhmfgbgngeaa
open Go Go.Gx

theorem dead_any (l : List SMatch) (i : Nat) (h : i < l.length) : (deadB l).any (fun z => decide (z = (i : Int))) = deadAt l i := by
  unfold deadB deadT
  rw [Bool.eq_iff_iff, List.any_eq_true]
  constructor
  · rintro ⟨z, hz, he⟩
    obtain ⟨k, hk, rfl⟩ := List.mem_map.1 hz
    have h2 := of_decide_eq_true he
    have e : k = i := by omega
    subst e
    exact (List.mem_filter.1 hk).2
  · intro hd
    exact ⟨(i : Int), List.mem_map.2 ⟨i, List.mem_filter.2 ⟨List.mem_range.2 h, hd⟩, rfl⟩, by simp⟩
theorem alT_step (l : List SMatch) (n : Nat) : alT l (n + 1) = bif deadAt l n then alT l n else alT l n ++ [l.getD n eMatch.zero] := by
  unfold alT
  rw [idxs_step]
  cases deadAt l n <;> simp
theorem plT_step (l : List SMatch) (n : Nat) : plT l (n + 1) = bif deadAt l n then plT l n else plT l n ++ [(n : Int)] := by
  unfold plT
  rw [idxs_step]
  cases deadAt l n <;> simp

theorem z49 : (Try.prog.info? 49).bind (·.zero) = some (eLaw19Came.val eLaw19Came.zero) := by kernel_rfl

theorem en19 : Enters Try.prog 19 := Enters.mk' (by kernel_rfl)

set_option maxHeartbeats 1600000 in
theorem RuleOrder_walk (u v : Value) (l : List SMatch) (ps : List SLaw19Came) (w : World) (hl : IsSl eMatch w u l) (hps : IsSl eLaw19Came w v ps) : Calls Try.prog 4 #[u, v] w (RetV w (.bool true)) := by
  have hle := hl.le
  have hple := hps.le
  refine enter0 164 Try.func4 rfl rfl (Nat.le_of_ble_eq_true rfl) ?_
  refine seq ?_
  refine region ?_
  refine cons (opv (Ev.assign (.c (v := .bool false) rfl)) ?_)
  refine nil ?_
  refine pN ?_
  refine seq ?_
  refine seq ?_
  refine region ?_
  refine cons (callv en15 .nil (fun w I => works_ok w) ?_)
  refine cons (opv (Ev.not (.t rfl)) ?_)
  refine nil ?_
  refine pN ?_
  first | refine condD rfl (fun h0 => ?_) (fun h0 => ?_) | refine cond rfl (fun h0 => ?_) (fun h0 => ?_)
  · simp at h0
  · refine skip ?_
    refine pN ?_
    refine seq ?_
    refine region ?_
    refine cons (opv (Ev.move (.t rfl)) ?_)
    refine cons (calln (X := Nat × List Res) (CompJ l) (compV l) (fun x => x.2) en16 (.cons (.t rfl) .nil) (fun w I => compile_ok _ l w (hl.keep0 I.keeps)) (fun x1 hx1 => ?_))
    refine cons (opv (Ev.move (.t rfl)) ?_)
    refine cons (opv (Ev.to (v' := .pointer (ptrO l x1.1)) (Ev.extract (.t rfl) rfl) (rfl)) ?_)
    refine cons (opv (Ev.extract (.t rfl) rfl) ?_)
    refine cons (opv (Ev.assign (.t rfl)) ?_)
    refine cons (opv (Ev.assign (.t rfl)) ?_)
    refine nil ?_
    refine pN ?_
    refine seq ?_
    refine seq ?_
    refine region ?_
    refine cons (opv (Ev.move (.t rfl)) ?_)
    refine cons (opv (Ev.neq_i (.t rfl) (.c (v := I 0) rfl)) ?_)
    refine nil ?_
    refine pN ?_
    first | refine condD rfl (fun he => ?_) (fun hc => ?_) | refine cond rfl (fun he => ?_) (fun hc => ?_)
    · try simp only [Bool.and_eq_true, Bool.or_eq_true, Bool.or_eq_false_iff, Bool.and_eq_false_iff, Bool.not_eq_true', Bool.not_eq_false', decide_eq_true_eq, decide_eq_false_iff_not, Decidable.not_not] at he
      refine seq ?_
      refine region ?_
      refine cons (opv (Ev.assign (.c (v := .bool true) rfl)) ?_)
      refine nil ?_
      refine pN ?_
      refine ret ?_
      refine pR ?_
      refine done rfl (.tmp rfl .nil) (retE ?_)
      rfl
    · try simp only [Bool.and_eq_true, Bool.or_eq_true, Bool.or_eq_false_iff, Bool.and_eq_false_iff, Bool.not_eq_true', Bool.not_eq_false', decide_eq_true_eq, decide_eq_false_iff_not, Decidable.not_not] at hc
      obtain ⟨hall, hll⟩ := compE_all hc
      have hdl := deadT_len l l.length
      change (deadB l).length ≤ l.length at hdl
      refine skip ?_
      refine pN ?_
      refine seq ?_
      refine region ?_
      refine cons (opv (Ev.move (.t rfl)) ?_)
      refine cons (callo en17 (.cons (.t rfl) .nil) (fun w I => (by have h := dead_ok x1.1 l w (hx1 hc w (fun r hr => (I.own r (by repeat first | exact hr | exact List.mem_append_left _ hr | apply List.mem_append_right | apply List.Mem.tail)).1)) (by omega); rw [← ptrO_ok x1.1 hc] at h; exact h)) (fun v1 => ?_))
      refine cons (opv (Ev.assign (.t rfl)) ?_)
      refine nil ?_
      refine pN ?_
      refine seq ?_
      refine region ?_
      refine cons (opv (Ev.assign (.c (v := (Go.Value.slice none 0 0)) rfl)) ?_)
      refine takeNil eMatch 31 ?_
      refine nil ?_
      refine pN ?_
      refine seq ?_
      refine region ?_
      refine cons (opv (Ev.assign (.c (v := (Go.Value.slice none 0 0)) rfl)) ?_)
      refine takeNil iE 3 ?_
      refine nil ?_
      refine pN ?_
      refine seq ?_
      refine seq ?_
      refine region ?_
      refine cons (opv (Ev.assign (.c (v := I 0) rfl)) ?_)
      refine nil ?_
      refine pN ?_
      refine block ?_
      refine loop (X := Int × OV × OV × (List SMatch) × (List Int)) (fun x : Int × OV × OV × (List SMatch) × (List Int) => (0 ≤ x.1 ∧ x.1 ≤ l.length) ∧ (x.2.2.2.1 = alT l x.1.toNat) ∧ (x.2.2.2.2 = plT l x.1.toNat)) (fun x : Int × OV × OV × (List SMatch) × (List Int) => [(0, true, u), (1, true, v), (5, true, .pointer (ptrO l x1.1)), (7, true, v1.v), (8, true, x.2.1.v), (9, true, x.2.2.1.v), (10, true, I x.1)]) (fun x : Int × OV × OV × (List SMatch) × (List Int) => (OwnS x.2.2.1.v iE x.2.2.2.2 3 :: OwnS x.2.1.v eMatch x.2.2.2.1 31 :: OwnS v1.v iE (deadB l) 3 :: (x1.2 ++ []))) (fun x : Int × OV × OV × (List SMatch) × (List Int) => (l.length - x.1).toNat) (0, nilSl, nilSl, [], []) ⟨?_, ?_, ?_⟩ (by repeat first | exact Sub.nil | refine Sub.cons rfl ?_) (by repeat first | exact List.Sublist.refl _ | exact List.nil_sublist _ | apply List.Sublist.append_left | apply List.Sublist.cons_cons | apply List.Sublist.cons) (fun x hx => ?_)
      · omega
      · rfl
      · rfl
      obtain ⟨i, oa, op, al, pl⟩ := x
      obtain ⟨hi, hal, hpl⟩ : (0 ≤ i ∧ i ≤ l.length) ∧ (al = alT l i.toNat) ∧ (pl = plT l i.toNat) := hx
      show Sat _ _ [(0, true, u), (1, true, v), (5, true, .pointer (ptrO l x1.1)), (7, true, v1.v), (8, true, oa.v), (9, true, op.v), (10, true, I i)] (OwnS op.v iE pl 3 :: OwnS oa.v eMatch al 31 :: OwnS v1.v iE (deadB l) 3 :: (x1.2 ++ []))
      have hil := idxs_len l i.toNat
      have hall2 := alT_len l i.toNat
      have hpll := plT_len l i.toNat
      rw [← hal] at hall2
      rw [← hpl] at hpll
      have ei1 : (i + 1).toNat = i.toNat + 1 := by omega
      have ei2 : (i.toNat : Int) = i := by omega
      have hsA := alT_step l i.toNat
      have hsP := plT_step l i.toNat
      refine seq ?_
      refine seq ?_
      refine region ?_
      refine cons (opv (Ev.move (.t rfl)) ?_)
      refine cons (opv (Ev.move (.t rfl)) ?_)
      refine cons (opv (Ev.len Try.underlying41 (.t rfl) (fun w I => hl.keep0 I.keeps)) ?_)
      refine cons (opv (Ev.lss_i (.t rfl) (.t rfl)) ?_)
      refine nil ?_
      refine pN ?_
      first | refine condD rfl (fun hlt => ?_) (fun hge => ?_) | refine cond rfl (fun hlt => ?_) (fun hge => ?_)
      · try simp only [Bool.and_eq_true, Bool.or_eq_true, Bool.or_eq_false_iff, Bool.and_eq_false_iff, Bool.not_eq_true', Bool.not_eq_false', decide_eq_true_eq, decide_eq_false_iff_not, Decidable.not_not] at hlt
        refine skip ?_
        refine pN ?_
        refine seq ?_
        refine block ?_
        refine seq ?_
        refine region ?_
        refine cons (opv (Ev.assign (.c (v := .bool false) rfl)) ?_)
        refine nil ?_
        refine pN ?_
        refine seq ?_
        refine seq ?_
        refine region ?_
        refine cons (opv (Ev.assign (.c (v := I 0) rfl)) ?_)
        refine nil ?_
        refine pN ?_
        refine block ?_
        refine loop (X := Int × Bool) (fun x : Int × Bool => (0 ≤ x.1 ∧ x.1 ≤ (deadB l).length) ∧ (x.2 = ((deadB l).take x.1.toNat).any (fun z => decide (z = i)))) (fun x : Int × Bool => [(0, true, u), (1, true, v), (5, true, .pointer (ptrO l x1.1)), (7, true, v1.v), (8, true, oa.v), (9, true, op.v), (10, true, I i), (11, true, .bool x.2), (12, true, I x.1)]) (fun x : Int × Bool => (OwnS op.v iE pl 3 :: OwnS oa.v eMatch al 31 :: OwnS v1.v iE (deadB l) 3 :: (x1.2 ++ []))) (fun x : Int × Bool => ((deadB l).length - x.1).toNat) (0, false) ⟨?_, ?_⟩ (by repeat first | exact Sub.nil | refine Sub.cons rfl ?_) (by repeat first | exact List.Sublist.refl _ | exact List.nil_sublist _ | apply List.Sublist.append_left | apply List.Sublist.cons_cons | apply List.Sublist.cons) (fun x hx => ?_)
        · omega
        · rfl
        obtain ⟨k, d⟩ := x
        obtain ⟨hk, hd⟩ : (0 ≤ k ∧ k ≤ (deadB l).length) ∧ (d = ((deadB l).take k.toNat).any (fun z => decide (z = i))) := hx
        show Sat _ _ [(0, true, u), (1, true, v), (5, true, .pointer (ptrO l x1.1)), (7, true, v1.v), (8, true, oa.v), (9, true, op.v), (10, true, I i), (11, true, .bool d), (12, true, I k)] (OwnS op.v iE pl 3 :: OwnS oa.v eMatch al 31 :: OwnS v1.v iE (deadB l) 3 :: (x1.2 ++ []))
        refine seq ?_
        refine seq ?_
        refine region ?_
        refine cons (opv (Ev.move (.t rfl)) ?_)
        refine cons (opv (Ev.move (.t rfl)) ?_)
        refine cons (opv (Ev.len Try.underlying46 (.t rfl) (by first | exact isSl_own (by repeat first | exact mH | apply mT | apply mA) | exact fun w I => IsSl.keep0 (by assumption) I.keeps)) ?_)
        refine cons (opv (Ev.lss_i (.t rfl) (.t rfl)) ?_)
        refine nil ?_
        refine pN ?_
        first | refine condD rfl (fun hlt2 => ?_) (fun hge2 => ?_) | refine cond rfl (fun hlt2 => ?_) (fun hge2 => ?_)
        · try simp only [Bool.and_eq_true, Bool.or_eq_true, Bool.or_eq_false_iff, Bool.and_eq_false_iff, Bool.not_eq_true', Bool.not_eq_false', decide_eq_true_eq, decide_eq_false_iff_not, Decidable.not_not] at hlt2
          refine skip ?_
          refine pN ?_
          refine seq ?_
          refine block ?_
          refine region ?_
          refine cons (opv (Ev.move (.t rfl)) ?_)
          refine cons (opv (Ev.move (.t rfl)) ?_)
          refine cons (opg rfl rfl (Ev.move (.t rfl)) ?_)
          refine cons (opg rfl rfl (Ev.move (.t rfl)) ?_)
          refine cons (opg rfl rfl (Ev.indexAddr Try.underlying46 ty3 (.g rfl id) (.g rfl id) (by first | exact isSl_own (by repeat first | exact mH | apply mT | apply mA) | exact fun w I => IsSl.keep0 (by assumption) I.keeps) (fun _ => by first | omega | (rename_i hg; simp at hg; omega))) ?_)
          refine cons (opg rfl rfl (Ev.loadS0 ty3 (.g rfl id) (by first | exact isSl_own (by repeat first | exact mH | apply mT | apply mA) | exact fun w I => IsSl.keep0 (by assumption) I.keeps) (fun _ => by first | omega | (rename_i hg; simp at hg; omega))) ?_)
          refine cons (opg rfl rfl (Ev.move (.t rfl)) ?_)
          refine cons (opg rfl rfl (Ev.eql_i (.g rfl id) (.g rfl id)) ?_)
          refine cons (opv (Ev.pickO (.t rfl) (.c (v := .bool true) rfl) (fun {_} h => by cases h; rfl) ⟨_, rfl⟩ (by intro h1 h; first | (rw [h] <;> rfl) | (rw [h1, h] <;> rfl) | (rw [h, h1] <;> rfl) | simp_all)) ?_)
          refine cons (opv (Ev.assign (.t rfl)) ?_)
          refine nil ?_
          refine bN ?_
          refine pN ?_
          refine region ?_
          refine cons (opv (Ev.move (.t rfl)) ?_)
          refine cons (opv (Ev.add_i (.t rfl) (.c (v := I 1) rfl) (fun _ => by omega)) ?_)
          refine cons (opv (Ev.assign (.t rfl)) ?_)
          refine nil ?_
          refine pN ?_
          refine next (X := Int × Bool) (k + 1, _) ⟨?_, ?_⟩ ?_ (by repeat first | exact Sub.nil | refine Sub.cons rfl ?_) (by repeat first | exact List.Sublist.refl _ | exact List.nil_sublist _ | apply List.Sublist.append_left | apply List.Sublist.cons_cons | apply List.Sublist.cons)
          · try dsimp only
            omega
          · try dsimp only
            rw [take_snoc (deadB l) k hk.1 (by omega) iE.zero, List.any_append, ← hd]
            cases d <;> simp
          · try dsimp only
            omega
        · try simp only [Bool.and_eq_true, Bool.or_eq_true, Bool.or_eq_false_iff, Bool.and_eq_false_iff, Bool.not_eq_true', Bool.not_eq_false', decide_eq_true_eq, decide_eq_false_iff_not, Decidable.not_not] at hge2
          have hda : d = deadAt l i.toNat := by
            rw [hd, List.take_of_length_le (by omega), ← dead_any l i.toNat (by omega), ei2]
          refine exit ?_
          refine pX ?_
          refine pX ?_
          refine bX ?_
          refine pN ?_
          refine seq ?_
          refine region ?_
          refine cons (opv (Ev.move (.t rfl)) ?_)
          refine cons (opv (Ev.not (.t rfl)) ?_)
          refine nil ?_
          refine pN ?_
          first | refine condD rfl (fun h4 => ?_) (fun h4 => ?_) | refine cond rfl (fun h4 => ?_) (fun h4 => ?_)
          · have hd0 : deadAt l i.toNat = false := by rw [← hda]; simpa using h4
            have hstA : alT l (i + 1).toNat = alT l i.toNat ++ [l.getD i.toNat eMatch.zero] := by rw [ei1, hsA, hd0]; rfl
            have hstP : plT l (i + 1).toNat = plT l i.toNat ++ [i] := by rw [ei1, hsP, hd0, ei2]; rfl
            refine seq ?_
            refine region ?_
            refine cons (opv (Ev.move (.t rfl)) ?_)
            refine cons (opv (Ev.move (.t rfl)) ?_)
            refine cons (opv (Ev.move (.t rfl)) ?_)
            refine cons (opv (Ev.indexAddr Try.underlying41 ty31 (.t rfl) (.t rfl) (fun w I => hl.keep0 I.keeps) (fun _ => by omega)) ?_)
            refine cons (opv (Ev.loadS0 ty31 (.t rfl) (fun w I => hl.keep0 I.keeps) (fun _ => by omega)) ?_)
            refine cons (buildSlice (E := eMatch) Try.underlying41 ty31 z31 (.cons (.t rfl) .nil) rfl rfl (fun v2 => ?_))
            refine cons (append (E := eMatch) Try.underlying41 ty31 rfl zb31 zs31 (.t rfl) (.t rfl) (fun _ => by repeat first | exact Upd.head | apply Upd.tail | apply Upd.right) (by first | exact isSl_own (by repeat first | exact mH | apply mT | apply mA) | exact fun w I => IsSl.keep0 (by assumption) I.keeps) (⟨by (show _ ≤ 9223372036854775807); first | omega | (simp; done) | (simp; omega), by first | omega | (simp; done) | (simp; omega)⟩) (fun v3 => ?_))
            refine cons (opv (Ev.assign (.t rfl)) ?_)
            refine nil ?_
            refine pN ?_
            refine region ?_
            refine cons (opv (Ev.move (.t rfl)) ?_)
            refine cons (opv (Ev.move (.t rfl)) ?_)
            refine cons (buildSlice (E := iE) Try.underlying46 ty3 z3 (.cons (.t rfl) .nil) rfl rfl (fun v4 => ?_))
            refine cons (append (E := iE) Try.underlying46 ty3 rfl zb3 zs3 (.t rfl) (.t rfl) (fun _ => by repeat first | exact Upd.head | apply Upd.tail | apply Upd.right) (by first | exact isSl_own (by repeat first | exact mH | apply mT | apply mA) | exact fun w I => IsSl.keep0 (by assumption) I.keeps) (⟨by (show _ ≤ 9223372036854775807); first | omega | (simp; done) | (simp; omega), by first | omega | (simp; done) | (simp; omega)⟩) (fun v5 => ?_))
            refine cons (opv (Ev.assign (.t rfl)) ?_)
            refine nil ?_
            refine bN ?_
            refine pN ?_
            refine region ?_
            refine cons (opv (Ev.move (.t rfl)) ?_)
            refine cons (opv (Ev.add_i (.t rfl) (.c (v := I 1) rfl) (fun _ => by omega)) ?_)
            refine cons (opv (Ev.assign (.t rfl)) ?_)
            refine nil ?_
            refine pN ?_
            refine next (X := Int × OV × OV × (List SMatch) × (List Int)) (i + 1, _, _, _, _) ⟨?_, ?_, ?_⟩ ?_ (by repeat first | exact Sub.nil | refine Sub.cons rfl ?_) (by repeat first | exact List.Sublist.refl _ | exact List.nil_sublist _ | apply List.Sublist.append_left | apply List.Sublist.cons_cons | apply List.Sublist.cons)
            · try dsimp only
              omega
            · try dsimp only
              rw [hstA, ← hal]
            · try dsimp only
              rw [hstP, ← hpl]
            · try dsimp only
              omega
          · have hd0 : deadAt l i.toNat = true := by rw [← hda]; simpa using h4
            have hstA : alT l (i + 1).toNat = alT l i.toNat := by rw [ei1, hsA, hd0]; rfl
            have hstP : plT l (i + 1).toNat = plT l i.toNat := by rw [ei1, hsP, hd0]; rfl
            refine skip ?_
            refine bN ?_
            refine pN ?_
            refine region ?_
            refine cons (opv (Ev.move (.t rfl)) ?_)
            refine cons (opv (Ev.add_i (.t rfl) (.c (v := I 1) rfl) (fun _ => by omega)) ?_)
            refine cons (opv (Ev.assign (.t rfl)) ?_)
            refine nil ?_
            refine pN ?_
            refine next (X := Int × OV × OV × (List SMatch) × (List Int)) (i + 1, _, _, _, _) ⟨?_, ?_, ?_⟩ ?_ (by repeat first | exact Sub.nil | refine Sub.cons rfl ?_) (by repeat first | exact List.Sublist.refl _ | exact List.nil_sublist _ | apply List.Sublist.append_left | apply List.Sublist.cons_cons | apply List.Sublist.cons)
            · try dsimp only
              omega
            · try dsimp only
              rw [hstA, ← hal]
            · try dsimp only
              rw [hstP, ← hpl]
            · try dsimp only
              omega
      · try simp only [Bool.and_eq_true, Bool.or_eq_true, Bool.or_eq_false_iff, Bool.and_eq_false_iff, Bool.not_eq_true', Bool.not_eq_false', decide_eq_true_eq, decide_eq_false_iff_not, Decidable.not_not] at hge
        have ei : i.toNat = l.length := by omega
        rw [ei] at hal hpl
        subst hal hpl
        refine exit ?_
        refine pX ?_
        refine pX ?_
        refine bX ?_
        refine pN ?_
        refine seq ?_
        refine region ?_
        refine cons (opv (Ev.move (.t rfl)) ?_)
        refine cons (calln (X := Nat × List Res) (CompJ (alT l l.length)) (compV (alT l l.length)) (fun x => x.2) en16 (.cons (.t rfl) .nil) (fun w I => compile_ok _ _ w (isSl_own (by repeat first | exact mH | apply mT | apply mA) w I)) (fun x2 hx2 => ?_))
        have hcA := alive_comp hc
        have hRA := hx2 hcA
        refine cons (opv (Ev.move (.t rfl)) ?_)
        refine cons (opv (Ev.to (v' := .pointer (some ⟨x2.1, 0, none⟩)) (Ev.extract (.t rfl) rfl) (by unfold ptrC; rw [ptrO_ok _ hcA])) ?_)
        refine cons (opv (Ev.to (v' := I 0) (Ev.extract (.t rfl) rfl) (by rw [hcA])) ?_)
        refine cons (opv (Ev.assign (.t rfl)) ?_)
        refine cons (opv (Ev.assign (.t rfl)) ?_)
        refine nil ?_
        refine pN ?_
        refine seq ?_
        refine seq ?_
        refine region ?_
        refine cons (opv (Ev.move (.t rfl)) ?_)
        refine cons (opv (Ev.neq_i (.t rfl) (.c (v := I 0) rfl)) ?_)
        refine cons (opv (Ev.to (v' := .bool false) (Ev.move (.t rfl)) (congrArg Value.bool (by decide))) ?_)
        refine cons (opg rfl rfl (Ev.move (.t rfl)) ?_)
        refine cons (opgT rfl rfl rfl ?_)
        refine (callo en17 (.cons (.g rfl id) .nil) (fun w I => dead_ok x2.1 (alT l l.length) w (hRA w (fun r hr => (I.own r (by repeat first | exact hr | exact List.mem_append_left _ hr | apply List.mem_append_right | apply List.Mem.tail)).1)) (by have e1 := alT_len l l.length; have e2 := idxs_len l l.length; omega)) (fun v6 => ?_))
        refine cons (opg rfl rfl (Ev.len Try.underlying46 (.t rfl) (by first | exact isSl_own (by repeat first | exact mH | apply mT | apply mA) | exact fun w I => IsSl.keep0 (by assumption) I.keeps)) ?_)
        refine cons (opg rfl rfl (Ev.neq_i (.g rfl id) (.c (v := I 0) rfl)) ?_)
        refine cons (opv (Ev.pickO (.t rfl) (.c (v := .bool true) rfl) (fun {_} h => by cases h; rfl) ⟨_, rfl⟩ (by intro h1 h; first | (rw [h] <;> rfl) | (rw [h1, h] <;> rfl) | (rw [h, h1] <;> rfl) | simp_all)) ?_)
        refine nil ?_
        refine pN ?_
        first | refine condD rfl (fun h5 => ?_) (fun h5 => ?_) | refine cond rfl (fun h5 => ?_) (fun h5 => ?_)
        · exfalso
          rw [alive_free] at h5
          simp at h5
        · refine skip ?_
          refine pN ?_
          refine seq ?_
          refine seq ?_
          refine region ?_
          refine cons (opv (Ev.assign (.c (v := I 0) rfl)) ?_)
          refine nil ?_
          refine pN ?_
          refine block ?_
          refine loop (X := Int) (fun x : Int => (0 ≤ x ∧ x ≤ ps.length)) (fun x : Int => [(0, true, u), (1, true, v), (5, true, .pointer (ptrO l x1.1)), (9, true, op.v), (13, true, .pointer (some ⟨x2.1, 0, none⟩)), (14, true, I x)]) (fun x : Int => (x2.2 ++ (OwnS op.v iE (plT l l.length) 3 :: (x1.2 ++ [])))) (fun x : Int => (ps.length - x).toNat) (0) ?_ (by repeat first | exact Sub.nil | refine Sub.cons rfl ?_) (by repeat first | exact List.Sublist.refl _ | exact List.nil_sublist _ | apply List.Sublist.append_left | apply List.Sublist.cons_cons | apply List.Sublist.cons) (fun x hx => ?_)
          · omega
          obtain ⟨j, rfl⟩ : ∃ y, y = x := ⟨x, rfl⟩
          have hj : 0 ≤ j ∧ j ≤ ps.length := hx
          clear hx
          show Sat _ _ [(0, true, u), (1, true, v), (5, true, .pointer (ptrO l x1.1)), (9, true, op.v), (13, true, .pointer (some ⟨x2.1, 0, none⟩)), (14, true, I j)] (x2.2 ++ (OwnS op.v iE (plT l l.length) 3 :: (x1.2 ++ [])))
          refine seq ?_
          refine seq ?_
          refine region ?_
          refine cons (opv (Ev.move (.t rfl)) ?_)
          refine cons (opv (Ev.move (.t rfl)) ?_)
          refine cons (opv (Ev.len Try.underlying42 (.t rfl) (fun w I => hps.keep0 I.keeps)) ?_)
          refine cons (opv (Ev.lss_i (.t rfl) (.t rfl)) ?_)
          refine cons (opv (Ev.move (.t rfl)) ?_)
          refine cons (opg rfl rfl (Ev.move (.t rfl)) ?_)
          refine cons (opg rfl rfl (Ev.lss_i (.g rfl id) (.c (v := I 60) rfl)) ?_)
          refine cons (opv (Ev.pickA (.t rfl) (fun {_} h => by cases h; rfl) ⟨_, rfl⟩ (by intro h1 h; first | (rw [h] <;> rfl) | (rw [h1, h] <;> rfl) | (rw [h, h1] <;> rfl) | simp_all) (.c (v := .bool false) rfl)) ?_)
          refine nil ?_
          refine pN ?_
          first | refine condD rfl (fun hlt => ?_) (fun hge => ?_) | refine cond rfl (fun hlt => ?_) (fun hge => ?_)
          · try simp only [Bool.and_eq_true, Bool.or_eq_true, Bool.or_eq_false_iff, Bool.and_eq_false_iff, Bool.not_eq_true', Bool.not_eq_false', decide_eq_true_eq, decide_eq_false_iff_not, Decidable.not_not] at hlt
            refine skip ?_
            refine pN ?_
            refine seq ?_
            refine block ?_
            refine seq ?_
            refine region ?_
            refine cons (opv (Ev.move (.t rfl)) ?_)
            refine cons (opv (Ev.move (.t rfl)) ?_)
            refine cons (opv (Ev.indexAddr Try.underlying42 ty49 (.t rfl) (.t rfl) (fun w I => hps.keep0 I.keeps) (fun _ => by omega)) ?_)
            refine cons (opv (Ev.loadS0 ty49 (.t rfl) (fun w I => hps.keep0 I.keeps) (fun _ => by omega)) ?_)
            refine cons (alloc z49 (fun b7 => ?_))
            refine cons (storeV ty49 (Lens.id _) (.t rfl) (.t rfl) (by repeat first | exact Upd.head | apply Upd.tail | apply Upd.right) ?_)
            refine nil ?_
            refine pN ?_
            refine seq ?_
            refine region ?_
            refine cons (opv (Ev.move (.t rfl)) ?_)
            refine cons (opv (Ev.fieldAddr (o := 0) (.t rfl) (by kernel_rfl)) ?_)
            refine cons (opv (Ev.load ty3 (.t rfl) (ptsVar (by repeat first | exact mH | apply mT | apply mA) SLaw19Came.l_in_)) ?_)
            refine cons (opv (Ev.fieldAddr (o := 1) (.t rfl) (by kernel_rfl)) ?_)
            refine cons (opv (Ev.load ty35 (.t rfl) (ptsVar (by repeat first | exact mH | apply mT | apply mA) SLaw19Came.l_h)) ?_)
            refine cons (callv en18 (.cons (.t rfl) (.cons (.t rfl) (.cons (.t rfl) .nil))) (fun w I => (by have h := first_ok x1.1 l (ps.getD j.toNat eLaw19Came.zero).in_ (ps.getD j.toNat eLaw19Came.zero).h w (hx1 hc w (fun r hr => (I.own r (by repeat first | exact hr | exact List.mem_append_left _ hr | apply List.mem_append_right | apply List.Mem.tail)).1)); rw [← ptrO_ok x1.1 hc] at h; exact h)) ?_)
            refine cons (opv (Ev.assign (.t rfl)) ?_)
            refine nil ?_
            refine pN ?_
            refine seq ?_
            refine seq ?_
            refine region ?_
            refine cons (opv (Ev.assign (.c (v := I 0) rfl)) ?_)
            refine nil ?_
            refine pN ?_
            refine block ?_
            refine loop (X := Int) (fun x : Int => (0 ≤ x ∧ x ≤ l.length)) (fun x : Int => [(0, true, u), (1, true, v), (5, true, .pointer (ptrO l x1.1)), (9, true, op.v), (13, true, .pointer (some ⟨x2.1, 0, none⟩)), (14, true, I j), (15, true, .pointer (some ⟨b7, 0, none⟩)), (16, true, I (firstF (fun m => metB m (ps.getD j.toNat eLaw19Came.zero).in_ (ps.getD j.toNat eLaw19Came.zero).h) l 0)), (17, true, I x)]) (fun x : Int => (Var b7 eLaw19Came (ps.getD j.toNat eLaw19Came.zero) 49 :: (x2.2 ++ (OwnS op.v iE (plT l l.length) 3 :: (x1.2 ++ []))))) (fun x : Int => (l.length - x).toNat) (0) ?_ (by repeat first | exact Sub.nil | refine Sub.cons rfl ?_) (by repeat first | exact List.Sublist.refl _ | exact List.nil_sublist _ | apply List.Sublist.append_left | apply List.Sublist.cons_cons | apply List.Sublist.cons) (fun x hx => ?_)
            · omega
            obtain ⟨q, rfl⟩ : ∃ y, y = x := ⟨x, rfl⟩
            have hq : 0 ≤ q ∧ q ≤ l.length := hx
            clear hx
            show Sat _ _ [(0, true, u), (1, true, v), (5, true, .pointer (ptrO l x1.1)), (9, true, op.v), (13, true, .pointer (some ⟨x2.1, 0, none⟩)), (14, true, I j), (15, true, .pointer (some ⟨b7, 0, none⟩)), (16, true, I (firstF (fun m => metB m (ps.getD j.toNat eLaw19Came.zero).in_ (ps.getD j.toNat eLaw19Came.zero).h) l 0)), (17, true, I q)] (Var b7 eLaw19Came (ps.getD j.toNat eLaw19Came.zero) 49 :: (x2.2 ++ (OwnS op.v iE (plT l l.length) 3 :: (x1.2 ++ []))))
            refine seq ?_
            refine seq ?_
            refine region ?_
            refine cons (opv (Ev.move (.t rfl)) ?_)
            refine cons (opv (Ev.move (.t rfl)) ?_)
            refine cons (opv (Ev.len Try.underlying41 (.t rfl) (fun w I => hl.keep0 I.keeps)) ?_)
            refine cons (opv (Ev.lss_i (.t rfl) (.t rfl)) ?_)
            refine nil ?_
            refine pN ?_
            first | refine condD rfl (fun hlt3 => ?_) (fun hge3 => ?_) | refine cond rfl (fun hlt3 => ?_) (fun hge3 => ?_)
            · try simp only [Bool.and_eq_true, Bool.or_eq_true, Bool.or_eq_false_iff, Bool.and_eq_false_iff, Bool.not_eq_true', Bool.not_eq_false', decide_eq_true_eq, decide_eq_false_iff_not, Decidable.not_not] at hlt3
              refine skip ?_
              refine pN ?_
              refine seq ?_
              refine block ?_
              refine seq ?_
              refine draw' (by kernel_rfl) ?_
              have hok := List.all_eq_true.1 hall _ (getD_mem l q.toNat eMatch.zero (by omega))
              have hsp := firstF_spec (fun m => metB m (ps.getD j.toNat eLaw19Came.zero).in_ (ps.getD j.toNat eLaw19Came.zero).h) l 0
              refine take 0 rfl (by kernel_rfl) (by kernel_rfl) (by kernel_rfl) (by repeat first | exact sR | exact sN | apply sC | apply sS | apply sA) (Ev.move (.t rfl)) ?_
              refine take 1 rfl (by kernel_rfl) (by kernel_rfl) (by kernel_rfl) (by repeat first | exact sR | exact sN | apply sC | apply sS | apply sA) (Ev.move (.t rfl)) ?_
              refine take 2 rfl (by kernel_rfl) (by kernel_rfl) (by kernel_rfl) (by repeat first | exact sR | exact sN | apply sC | apply sS | apply sA) (Ev.indexAddr Try.underlying41 ty31 (.t rfl) (.t rfl) (fun w I => hl.keep0 I.keeps) (fun _ => by omega)) ?_
              refine take 3 rfl (by kernel_rfl) (by kernel_rfl) (by kernel_rfl) (by repeat first | exact sR | exact sN | apply sC | apply sS | apply sA) (Ev.loadS0 ty31 (.t rfl) (fun w I => hl.keep0 I.keeps) (fun _ => by omega)) ?_
              refine take 4 rfl (by kernel_rfl) (by kernel_rfl) (by kernel_rfl) (by repeat first | exact sR | exact sN | apply sC | apply sS | apply sA) (Ev.fieldAddr (o := 0) (.t rfl) (by kernel_rfl)) ?_
              refine take 5 rfl (by kernel_rfl) (by kernel_rfl) (by kernel_rfl) (by repeat first | exact sR | exact sN | apply sC | apply sS | apply sA) (Ev.load ty3 (.t rfl) (ptsVar (by repeat first | exact mH | apply mT | apply mA) SLaw19Came.l_in_)) ?_
              refine take 6 rfl (by kernel_rfl) (by kernel_rfl) (by kernel_rfl) (by repeat first | exact sR | exact sN | apply sC | apply sS | apply sA) (Ev.fieldAddr (o := 1) (.t rfl) (by kernel_rfl)) ?_
              refine take 7 rfl (by kernel_rfl) (by kernel_rfl) (by kernel_rfl) (by repeat first | exact sR | exact sN | apply sC | apply sS | apply sA) (Ev.load ty35 (.t rfl) (ptsVar (by repeat first | exact mH | apply mT | apply mA) SLaw19Came.l_h)) ?_
              refine all [8] (by kernel_rfl) (by decide) (.cons rfl ?_ .nil)
              refine (callv en13 (.cons (.t rfl) (.cons (.t rfl) (.cons (.t rfl) .nil))) (fun w I => meets_ok _ _ _ w) ?_)
              refine heldN_of (by repeat first | exact sR | exact sN | apply sC | apply sS | apply sA) ?_
              refine take 9 rfl (by kernel_rfl) (by kernel_rfl) (by kernel_rfl) (by repeat first | exact sR | exact sN | apply sC | apply sS | apply sA) (Ev.assign (.t rfl)) ?_
              refine over (by kernel_rfl) ?_
              refine pN ?_
              refine seq ?_
              refine region ?_
              refine cons (opv (Ev.move (.t rfl)) ?_)
              refine cons (opv (Ev.move (.t rfl)) ?_)
              refine cons (opv (Ev.eql_i (.t rfl) (.t rfl)) ?_)
              refine cons (opv (Ev.move (.t rfl)) ?_)
              refine cons (opg rfl rfl (Ev.move (.t rfl)) ?_)
              refine cons (opg rfl rfl (Ev.not (.g rfl id)) ?_)
              refine cons (opv (Ev.pickA (.t rfl) (fun {_} h => by cases h; rfl) ⟨_, rfl⟩ (by intro h1 h; first | (rw [h] <;> rfl) | (rw [h1, h] <;> rfl) | (rw [h, h1] <;> rfl) | simp_all) (.c (v := .bool false) rfl)) ?_)
              refine cons (opv (Ev.move (.t rfl)) ?_)
              refine cons (opg rfl rfl (Ev.move (.t rfl)) ?_)
              refine cons (opg rfl rfl (Ev.lss_i (.g rfl id) (.c (v := I 0) rfl)) ?_)
              refine cons (opg rfl rfl (Ev.move (.g rfl id)) ?_)
              refine cons (opg rfl rfl (Ev.move (.t rfl)) ?_)
              refine cons (opg rfl rfl (Ev.move (.t rfl)) ?_)
              refine cons (opg rfl rfl (Ev.lss_i (.g rfl id) (.g rfl id)) ?_)
              refine cons (opg rfl rfl (Ev.pickO (.g rfl id) (.c (v := .bool true) rfl) (fun {_} h => by cases h; rfl) ⟨_, rfl⟩ (by intro h1 h; first | (rw [h] <;> rfl) | (rw [h1, h] <;> rfl) | (rw [h, h1] <;> rfl) | simp_all)) ?_)
              refine cons (opg rfl rfl (Ev.move (.g rfl id)) ?_)
              refine cons (opg rfl rfl (Ev.move (.t rfl)) ?_)
              refine cons (opg rfl rfl (Ev.pickA (.g rfl id) (fun {_} h => by cases h; rfl) ⟨_, rfl⟩ (by intro h1 h; first | (rw [h] <;> rfl) | (rw [h1, h] <;> rfl) | (rw [h, h1] <;> rfl) | simp_all) (.c (v := .bool false) rfl)) ?_)
              refine cons (opv (Ev.pickO (.t rfl) (.c (v := .bool true) rfl) (fun {_} h => by cases h; rfl) ⟨_, rfl⟩ (by intro h1 h; first | (rw [h] <;> rfl) | (rw [h1, h] <;> rfl) | (rw [h, h1] <;> rfl) | simp_all)) ?_)
              refine nil ?_
              refine pN ?_
              first | refine condD rfl (fun h8 => ?_) (fun h8 => ?_) | refine cond rfl (fun h8 => ?_) (fun h8 => ?_)
              · exfalso
                have hm : meetsB (l.getD q.toNat eMatch.zero) (ps.getD j.toNat eLaw19Came.zero).in_ (ps.getD j.toNat eLaw19Came.zero).h = metB (l.getD q.toNat eMatch.zero) (ps.getD j.toNat eLaw19Came.zero).in_ (ps.getD j.toNat eLaw19Came.zero).h := by
                  unfold meetsB
                  rw [hok]
                  rfl
                change (decide (q = (firstF (fun m => metB m (ps.getD j.toNat eLaw19Came.zero).in_ (ps.getD j.toNat eLaw19Came.zero).h) l 0)) && !meetsB (l.getD q.toNat eMatch.zero) (ps.getD j.toNat eLaw19Came.zero).in_ (ps.getD j.toNat eLaw19Came.zero).h || ((decide ((firstF (fun m => metB m (ps.getD j.toNat eLaw19Came.zero).in_ (ps.getD j.toNat eLaw19Came.zero).h) l 0) < 0) || decide (q < (firstF (fun m => metB m (ps.getD j.toNat eLaw19Came.zero).in_ (ps.getD j.toNat eLaw19Came.zero).h) l 0))) && meetsB (l.getD q.toNat eMatch.zero) (ps.getD j.toNat eLaw19Came.zero).in_ (ps.getD j.toNat eLaw19Came.zero).h)) = true at h8
                rw [hm] at h8
                rcases hsp with ⟨e1, e2⟩ | ⟨p, e1, e2, e3, e4⟩
                · have e3 : metB (l.getD q.toNat eMatch.zero) (ps.getD j.toNat eLaw19Came.zero).in_ (ps.getD j.toNat eLaw19Came.zero).h = false := e2 q.toNat (by omega)
                  rw [e1, e3] at h8
                  simp at h8
                  omega
                · rw [e1] at h8
                  by_cases hkp : q.toNat = p
                  · rw [hkp] at h8
                    have e5 : metB (l.getD p eMatch.zero) (ps.getD j.toNat eLaw19Came.zero).in_ (ps.getD j.toNat eLaw19Came.zero).h = true := e3
                    rw [e5] at h8
                    simp at h8
                    omega
                  · by_cases hlt5 : q.toNat < p
                    · have e5 : metB (l.getD q.toNat eMatch.zero) (ps.getD j.toNat eLaw19Came.zero).in_ (ps.getD j.toNat eLaw19Came.zero).h = false := e4 _ hlt5
                      rw [e5] at h8
                      simp at h8
                      omega
                    · simp only [Bool.or_eq_true, Bool.and_eq_true, decide_eq_true_eq] at h8
                      omega
              · refine skip ?_
                refine bN ?_
                refine pN ?_
                refine region ?_
                refine cons (opv (Ev.move (.t rfl)) ?_)
                refine cons (opv (Ev.add_i (.t rfl) (.c (v := I 1) rfl) (fun _ => by omega)) ?_)
                refine cons (opv (Ev.assign (.t rfl)) ?_)
                refine nil ?_
                refine pN ?_
                refine next (X := Int) (q + 1) ?_ ?_ (by repeat first | exact Sub.nil | refine Sub.cons rfl ?_) (by repeat first | exact List.Sublist.refl _ | exact List.nil_sublist _ | apply List.Sublist.append_left | apply List.Sublist.cons_cons | apply List.Sublist.cons)
                · try dsimp only
                  omega
                · try dsimp only
                  omega
            · try simp only [Bool.and_eq_true, Bool.or_eq_true, Bool.or_eq_false_iff, Bool.and_eq_false_iff, Bool.not_eq_true', Bool.not_eq_false', decide_eq_true_eq, decide_eq_false_iff_not, Decidable.not_not] at hge3
              refine exit ?_
              refine pX ?_
              refine pX ?_
              refine bX ?_
              refine pN ?_
              refine seq ?_
              refine seq ?_
              refine region ?_
              refine cons (opv (Ev.move (.t rfl)) ?_)
              refine cons (opv (Ev.move (.t rfl)) ?_)
              refine cons (opv (Ev.len Try.underlying41 (.t rfl) (fun w I => hl.keep0 I.keeps)) ?_)
              refine cons (opv (Ev.geq_i (.t rfl) (.t rfl)) ?_)
              refine cons (opv (Ev.move (.t rfl)) ?_)
              refine cons (opg rfl rfl (Ev.load ty49 (.t rfl) (ptsVar (by repeat first | exact mH | apply mT | apply mA) (Lens.id _))) ?_)
              refine cons (callg rfl rfl en19 (.cons (.g rfl id) .nil) (fun hg w I => usual_ok _ w) ?_)
              refine cons (opg rfl rfl (Ev.not (.g rfl id)) ?_)
              refine cons (opv (Ev.pickO (.t rfl) (.c (v := .bool true) rfl) (fun {_} h => by cases h; rfl) ⟨_, rfl⟩ (by intro h1 h; first | (rw [h] <;> rfl) | (rw [h1, h] <;> rfl) | (rw [h, h1] <;> rfl) | simp_all)) ?_)
              refine nil ?_
              refine pN ?_
              first | refine condD rfl (fun h9 => ?_) (fun h9 => ?_) | refine cond rfl (fun h9 => ?_) (fun h9 => ?_)
              · refine exit ?_
                refine pX ?_
                refine bX ?_
                refine pN ?_
                refine region ?_
                refine cons (opv (Ev.move (.t rfl)) ?_)
                refine cons (opv (Ev.add_i (.t rfl) (.c (v := I 1) rfl) (fun _ => by omega)) ?_)
                refine cons (opv (Ev.assign (.t rfl)) ?_)
                refine nil ?_
                refine pN ?_
                refine next (X := Int) (j + 1) ?_ ?_ (by repeat first | exact Sub.nil | refine Sub.cons rfl ?_) (by repeat first | exact List.Sublist.refl _ | exact List.nil_sublist _ | apply List.Sublist.append_left | apply List.Sublist.cons_cons | apply List.Sublist.cons)
                · try dsimp only
                  omega
                · try dsimp only
                  omega
              · have hus : usualB (ps.getD j.toNat eLaw19Came.zero) = true := by
                  have h9b := h9
                  simp at h9b
                  exact h9b.2
                refine skip ?_
                refine pN ?_
                refine seq ?_
                refine region ?_
                refine cons (opv (Ev.move (.t rfl)) ?_)
                refine cons (opv (Ev.fieldAddr (o := 0) (.t rfl) (by kernel_rfl)) ?_)
                refine cons (opv (Ev.load ty3 (.t rfl) (ptsVar (by repeat first | exact mH | apply mT | apply mA) SLaw19Came.l_in_)) ?_)
                refine cons (opv (Ev.fieldAddr (o := 1) (.t rfl) (by kernel_rfl)) ?_)
                refine cons (opv (Ev.load ty35 (.t rfl) (ptsVar (by repeat first | exact mH | apply mT | apply mA) SLaw19Came.l_h)) ?_)
                refine cons (callv en18 (.cons (.t rfl) (.cons (.t rfl) (.cons (.t rfl) .nil))) (fun w I => first_ok x2.1 (alT l l.length) (ps.getD j.toNat eLaw19Came.zero).in_ (ps.getD j.toNat eLaw19Came.zero).h w (hRA w (fun r hr => (I.own r (by repeat first | exact hr | exact List.mem_append_left _ hr | apply List.mem_append_right | apply List.Mem.tail)).1))) ?_)
                refine cons (opv (Ev.assign (.t rfl)) ?_)
                refine nil ?_
                refine pN ?_
                refine seq ?_
                refine region ?_
                have hlaw := order_law (fun m => metB m (ps.getD j.toNat eLaw19Came.zero).in_ (ps.getD j.toNat eLaw19Came.zero).h) l (fun p hp hq hb => first_alive hc (ps.getD j.toNat eLaw19Came.zero) hus p hp hq hb)
                refine cons (opv (Ev.move (.t rfl)) ?_)
                refine cons (opv (Ev.lss_i (.t rfl) (.c (v := I 0) rfl)) ?_)
                refine cons (opv (Ev.move (.t rfl)) ?_)
                refine cons (opv (Ev.lss_i (.t rfl) (.c (v := I 0) rfl)) ?_)
                refine cons (opv (Ev.neq_b Try.underlying4 (.t rfl) (.t rfl)) ?_)
                refine cons (opv (Ev.move (.t rfl)) ?_)
                refine cons (opg rfl rfl (Ev.move (.t rfl)) ?_)
                refine cons (opg rfl rfl (Ev.geq_i (.g rfl id) (.c (v := I 0) rfl)) ?_)
                refine cons (opg rfl rfl (Ev.move (.g rfl id)) ?_)
                refine cons (opg rfl rfl (Ev.move (.t rfl)) ?_)
                refine cons (opg rfl rfl (Ev.move (.t rfl)) ?_)
                refine cons (opg rfl rfl (Ev.indexAddr Try.underlying46 ty3 (.g rfl id) (.g rfl id) (by first | exact isSl_own (by repeat first | exact mH | apply mT | apply mA) | exact fun w I => IsSl.keep0 (by assumption) I.keeps) (fun _ => by rename_i hg; rcases hlaw with ⟨e1, _⟩ | ⟨n, e1, e2, _, _⟩ <;> first | (rw [e1] at hg; simp at hg; done) | (rw [e1]; omega))) ?_)
                refine cons (opg rfl rfl (Ev.loadS0 ty3 (.g rfl id) (by first | exact isSl_own (by repeat first | exact mH | apply mT | apply mA) | exact fun w I => IsSl.keep0 (by assumption) I.keeps) (fun _ => by rename_i hg; rcases hlaw with ⟨e1, _⟩ | ⟨n, e1, e2, _, _⟩ <;> first | (rw [e1] at hg; simp at hg; done) | (rw [e1]; omega))) ?_)
                refine cons (opg rfl rfl (Ev.move (.t rfl)) ?_)
                refine cons (opg rfl rfl (Ev.neq_i (.g rfl id) (.g rfl id)) ?_)
                refine cons (opg rfl rfl (Ev.pickA (.g rfl id) (fun {_} h => by cases h; rfl) ⟨_, rfl⟩ (by intro h1 h; first | (rw [h] <;> rfl) | (rw [h1, h] <;> rfl) | (rw [h, h1] <;> rfl) | simp_all) (.c (v := .bool false) rfl)) ?_)
                refine cons (opv (Ev.pickO (.t rfl) (.c (v := .bool true) rfl) (fun {_} h => by cases h; rfl) ⟨_, rfl⟩ (by intro h1 h; first | (rw [h] <;> rfl) | (rw [h1, h] <;> rfl) | (rw [h, h1] <;> rfl) | simp_all)) ?_)
                refine nil ?_
                refine pN ?_
                first | refine condD rfl (fun h10 => ?_) (fun h10 => ?_) | refine cond rfl (fun h10 => ?_) (fun h10 => ?_)
                · exfalso
                  rcases hlaw with ⟨e1, e2⟩ | ⟨n, e1, e2, e3, e4⟩
                  · rw [e1, e2] at h10
                    simp at h10
                  · rw [e1] at h10
                    have e5 : (plT l l.length).getD (n : Int).toNat iE.zero = (firstF (fun m => metB m (ps.getD j.toNat eLaw19Came.zero).in_ (ps.getD j.toNat eLaw19Came.zero).h) l 0) := by rw [Int.toNat_natCast]; exact e3
                    rw [e5] at h10
                    have e6 : ¬ (firstF (fun m => metB m (ps.getD j.toNat eLaw19Came.zero).in_ (ps.getD j.toNat eLaw19Came.zero).h) l 0) < 0 := by omega
                    have e7 : ¬ (n : Int) < 0 := by omega
                    rw [decide_eq_false e6, decide_eq_false e7] at h10
                    simp at h10
                · refine skip ?_
                  refine bN ?_
                  refine pN ?_
                  refine region ?_
                  refine cons (opv (Ev.move (.t rfl)) ?_)
                  refine cons (opv (Ev.add_i (.t rfl) (.c (v := I 1) rfl) (fun _ => by omega)) ?_)
                  refine cons (opv (Ev.assign (.t rfl)) ?_)
                  refine nil ?_
                  refine pN ?_
                  refine next (X := Int) (j + 1) ?_ ?_ (by repeat first | exact Sub.nil | refine Sub.cons rfl ?_) (by repeat first | exact List.Sublist.refl _ | exact List.nil_sublist _ | apply List.Sublist.append_left | apply List.Sublist.cons_cons | apply List.Sublist.cons)
                  · try dsimp only
                    omega
                  · try dsimp only
                    omega
          · try simp only [Bool.and_eq_true, Bool.or_eq_true, Bool.or_eq_false_iff, Bool.and_eq_false_iff, Bool.not_eq_true', Bool.not_eq_false', decide_eq_true_eq, decide_eq_false_iff_not, Decidable.not_not] at hge
            refine exit ?_
            refine pX ?_
            refine pX ?_
            refine bX ?_
            refine pN ?_
            refine seq ?_
            refine region ?_
            refine cons (opv (Ev.assign (.c (v := .bool true) rfl)) ?_)
            refine nil ?_
            refine pN ?_
            refine ret ?_
            refine done rfl (.tmp rfl .nil) (retE ?_)
            rfl
end Go.Proofs.Ytkmdhmfgbgngeaa
