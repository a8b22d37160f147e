/- conf -/
import Derived.Test.YtnoobdijbpmjkaaGreatC2
set_option linter.unusedVariables false
set_option linter.unusedSimpArgs false
namespace Go.Proofs.YtnoobdijbpmjkaaGreat
open Go Go.Gx

theorem zb3 : (Tryz.prog.info? 3).map (fun i => (i.zero, i.bytes)) = some (some (iE.val iE.zero), 8) := by kernel_rfl

theorem zs3 : (iE.val iE.zero).cells.size = iE.size := by rw [Enc.cells_val, List.size_toArray, Enc.len]

theorem clone_3 (u : Value) (xs : List Int) (w : World) (hl : IsSl iE w u xs) (hn : xs.length * 8 ≤ 140737488355328) : Calls Tryz.prog 48 #[u] w (RetO w iE xs 3) := by
  have hle := hl.le
  have hl2 := hl
  obtain ⟨sa, cap, rfl, hc1, hc2, hc3, hc4⟩ := hl2
  replace hc3 : sa = none → [] = xs := fun e => (hc3 e).1.symm
  refine enter0 8 Tryz.func48 rfl rfl (Nat.le_of_ble_eq_true rfl) ?_
  refine seq (region (cons (opv (Ev.assign (.c (v := (Go.Value.slice none 0 0)) rfl)) ?_)))
  refine nil (pN (seq (seq (region (cons (opv (Ev.move (.t rfl)) (cons (opv (Ev.eql_slnil Tryz.underlying22 (.t rfl) (.c rfl)) ?_))))))))
  refine nil (pN ?_)
  first | refine condD rfl (fun h0 => ?_) (fun h0 => ?_) | refine cond rfl (fun h0 => ?_) (fun h0 => ?_)
  · try simp only [nb] at h0
    refine seq (region (takeNil iE 3 ?_))
    refine cons (opv (Ev.assign (.c (v := (Go.Value.slice none 0 0)) rfl)) ?_)
    refine nil (pN (ret (pR (done rfl (.tmp rfl .nil) (retOE (by repeat first | exact mH | apply mT | apply mA) ?_)))))
    first | exact hc3 (by simpa using h0) | (symm; exact hc3 (by simpa using h0))
  · try simp only [nb] at h0
    refine skip (pN (seq (region (cons (buildSlice (E := iE) Tryz.underlying22 ty3 z3 .nil rfl rfl (fun v1 => ?_))))))
    refine cons (opv (Ev.move (.t rfl)) (cons (append (E := iE) Tryz.underlying22 ty3 rfl zb3 zs3 (.t rfl) (.t rfl) (fun _ => by repeat first | exact Upd.head | apply Upd.tail | apply Upd.right) (fun w I => hl.keep0 I.keeps) (⟨by (show _ ≤ 9223372036854775807); first | omega | (simp; done) | (simp; omega), by first | omega | (simp; done) | (simp; omega)⟩) (fun v2 => ?_))))
    refine cons (opv (Ev.assign (.t rfl)) (nil (pN (ret (done rfl (.tmp rfl .nil) (retOE (by repeat first | exact mH | apply mT | apply mA) ?_))))))
    simp

theorem zb52 : (Tryz.prog.info? 52).map (fun i => (i.zero, i.bytes)) = some (some (eRoute.val eRoute.zero), 40) := by kernel_rfl

theorem zs52 : (eRoute.val eRoute.zero).cells.size = eRoute.size := by rw [Enc.cells_val, List.size_toArray, Enc.len]

theorem clone_52 (u : Value) (xs : List SRoute) (w : World) (hl : IsSl eRoute w u xs) (hn : xs.length * 40 ≤ 140737488355328) : Calls Tryz.prog 49 #[u] w (RetO w eRoute xs 52) := by
  have hle := hl.le
  have hl2 := hl
  obtain ⟨sa, cap, rfl, hc1, hc2, hc3, hc4⟩ := hl2
  replace hc3 : sa = none → [] = xs := fun e => (hc3 e).1.symm
  refine enter0 8 Tryz.func49 rfl rfl (Nat.le_of_ble_eq_true rfl) ?_
  refine seq (region (cons (opv (Ev.assign (.c (v := (Go.Value.slice none 0 0)) rfl)) ?_)))
  refine nil (pN (seq (seq (region (cons (opv (Ev.move (.t rfl)) (cons (opv (Ev.eql_slnil Tryz.underlying23 (.t rfl) (.c rfl)) ?_))))))))
  refine nil (pN ?_)
  first | refine condD rfl (fun h0 => ?_) (fun h0 => ?_) | refine cond rfl (fun h0 => ?_) (fun h0 => ?_)
  · try simp only [nb] at h0
    refine seq (region (takeNil eRoute 52 ?_))
    refine cons (opv (Ev.assign (.c (v := (Go.Value.slice none 0 0)) rfl)) ?_)
    refine nil (pN (ret (pR (done rfl (.tmp rfl .nil) (retOE (by repeat first | exact mH | apply mT | apply mA) ?_)))))
    first | exact hc3 (by simpa using h0) | (symm; exact hc3 (by simpa using h0))
  · try simp only [nb] at h0
    refine skip (pN (seq (region (cons (buildSlice (E := eRoute) Tryz.underlying23 ty52 z52 .nil rfl rfl (fun v1 => ?_))))))
    refine cons (opv (Ev.move (.t rfl)) (cons (append (E := eRoute) Tryz.underlying23 ty52 rfl zb52 zs52 (.t rfl) (.t rfl) (fun _ => by repeat first | exact Upd.head | apply Upd.tail | apply Upd.right) (fun w I => hl.keep0 I.keeps) (⟨by (show _ ≤ 9223372036854775807); first | omega | (simp; done) | (simp; omega), by first | omega | (simp; done) | (simp; omega)⟩) (fun v2 => ?_))))
    refine cons (opv (Ev.assign (.t rfl)) (nil (pN (ret (done rfl (.tmp rfl .nil) (retOE (by repeat first | exact mH | apply mT | apply mA) ?_))))))
    simp

theorem zb76 : (Tryz.prog.info? 76).map (fun i => (i.zero, i.bytes)) = some (some (eRule.val eRule.zero), 152) := by kernel_rfl

theorem zs76 : (eRule.val eRule.zero).cells.size = eRule.size := by rw [Enc.cells_val, List.size_toArray, Enc.len]

theorem clone_76 (u : Value) (xs : List SRule) (w : World) (hl : IsSl eRule w u xs) (hn : xs.length * 152 ≤ 140737488355328) : Calls Tryz.prog 50 #[u] w (RetO w eRule xs 76) := by
  have hle := hl.le
  have hl2 := hl
  obtain ⟨sa, cap, rfl, hc1, hc2, hc3, hc4⟩ := hl2
  replace hc3 : sa = none → [] = xs := fun e => (hc3 e).1.symm
  refine enter0 8 Tryz.func50 rfl rfl (Nat.le_of_ble_eq_true rfl) ?_
  refine seq (region (cons (opv (Ev.assign (.c (v := (Go.Value.slice none 0 0)) rfl)) ?_)))
  refine nil (pN (seq (seq (region (cons (opv (Ev.move (.t rfl)) (cons (opv (Ev.eql_slnil Tryz.underlying24 (.t rfl) (.c rfl)) ?_))))))))
  refine nil (pN ?_)
  first | refine condD rfl (fun h0 => ?_) (fun h0 => ?_) | refine cond rfl (fun h0 => ?_) (fun h0 => ?_)
  · try simp only [nb] at h0
    refine seq (region (takeNil eRule 76 ?_))
    refine cons (opv (Ev.assign (.c (v := (Go.Value.slice none 0 0)) rfl)) ?_)
    refine nil (pN (ret (pR (done rfl (.tmp rfl .nil) (retOE (by repeat first | exact mH | apply mT | apply mA) ?_)))))
    first | exact hc3 (by simpa using h0) | (symm; exact hc3 (by simpa using h0))
  · try simp only [nb] at h0
    refine skip (pN (seq (region (cons (buildSlice (E := eRule) Tryz.underlying24 ty76 z76 .nil rfl rfl (fun v1 => ?_))))))
    refine cons (opv (Ev.move (.t rfl)) (cons (append (E := eRule) Tryz.underlying24 ty76 rfl zb76 zs76 (.t rfl) (.t rfl) (fun _ => by repeat first | exact Upd.head | apply Upd.tail | apply Upd.right) (fun w I => hl.keep0 I.keeps) (⟨by (show _ ≤ 9223372036854775807); first | omega | (simp; done) | (simp; omega), by first | omega | (simp; done) | (simp; omega)⟩) (fun v2 => ?_))))
    refine cons (opv (Ev.assign (.t rfl)) (nil (pN (ret (done rfl (.tmp rfl .nil) (retOE (by repeat first | exact mH | apply mT | apply mA) ?_))))))
    simp

theorem zb57 : (Tryz.prog.info? 57).map (fun i => (i.zero, i.bytes)) = some (some (eMeterConf.val eMeterConf.zero), 40) := by kernel_rfl

theorem zs57 : (eMeterConf.val eMeterConf.zero).cells.size = eMeterConf.size := by rw [Enc.cells_val, List.size_toArray, Enc.len]

theorem clone_57 (u : Value) (xs : List SMeterConf) (w : World) (hl : IsSl eMeterConf w u xs) (hn : xs.length * 40 ≤ 140737488355328) : Calls Tryz.prog 51 #[u] w (RetO w eMeterConf xs 57) := by
  have hle := hl.le
  have hl2 := hl
  obtain ⟨sa, cap, rfl, hc1, hc2, hc3, hc4⟩ := hl2
  replace hc3 : sa = none → [] = xs := fun e => (hc3 e).1.symm
  refine enter0 8 Tryz.func51 rfl rfl (Nat.le_of_ble_eq_true rfl) ?_
  refine seq (region (cons (opv (Ev.assign (.c (v := (Go.Value.slice none 0 0)) rfl)) ?_)))
  refine nil (pN (seq (seq (region (cons (opv (Ev.move (.t rfl)) (cons (opv (Ev.eql_slnil Tryz.underlying25 (.t rfl) (.c rfl)) ?_))))))))
  refine nil (pN ?_)
  first | refine condD rfl (fun h0 => ?_) (fun h0 => ?_) | refine cond rfl (fun h0 => ?_) (fun h0 => ?_)
  · try simp only [nb] at h0
    refine seq (region (takeNil eMeterConf 57 ?_))
    refine cons (opv (Ev.assign (.c (v := (Go.Value.slice none 0 0)) rfl)) ?_)
    refine nil (pN (ret (pR (done rfl (.tmp rfl .nil) (retOE (by repeat first | exact mH | apply mT | apply mA) ?_)))))
    first | exact hc3 (by simpa using h0) | (symm; exact hc3 (by simpa using h0))
  · try simp only [nb] at h0
    refine skip (pN (seq (region (cons (buildSlice (E := eMeterConf) Tryz.underlying25 ty57 z57 .nil rfl rfl (fun v1 => ?_))))))
    refine cons (opv (Ev.move (.t rfl)) (cons (append (E := eMeterConf) Tryz.underlying25 ty57 rfl zb57 zs57 (.t rfl) (.t rfl) (fun _ => by repeat first | exact Upd.head | apply Upd.tail | apply Upd.right) (fun w I => hl.keep0 I.keeps) (⟨by (show _ ≤ 9223372036854775807); first | omega | (simp; done) | (simp; omega), by first | omega | (simp; done) | (simp; omega)⟩) (fun v2 => ?_))))
    refine cons (opv (Ev.assign (.t rfl)) (nil (pN (ret (done rfl (.tmp rfl .nil) (retOE (by repeat first | exact mH | apply mT | apply mA) ?_))))))
    simp

theorem zb59 : (Tryz.prog.info? 59).map (fun i => (i.zero, i.bytes)) = some (some (eMirrorConf.val eMirrorConf.zero), 32) := by kernel_rfl

theorem zs59 : (eMirrorConf.val eMirrorConf.zero).cells.size = eMirrorConf.size := by rw [Enc.cells_val, List.size_toArray, Enc.len]

theorem clone_59 (u : Value) (xs : List SMirrorConf) (w : World) (hl : IsSl eMirrorConf w u xs) (hn : xs.length * 32 ≤ 140737488355328) : Calls Tryz.prog 52 #[u] w (RetO w eMirrorConf xs 59) := by
  have hle := hl.le
  have hl2 := hl
  obtain ⟨sa, cap, rfl, hc1, hc2, hc3, hc4⟩ := hl2
  replace hc3 : sa = none → [] = xs := fun e => (hc3 e).1.symm
  refine enter0 8 Tryz.func52 rfl rfl (Nat.le_of_ble_eq_true rfl) ?_
  refine seq (region (cons (opv (Ev.assign (.c (v := (Go.Value.slice none 0 0)) rfl)) ?_)))
  refine nil (pN (seq (seq (region (cons (opv (Ev.move (.t rfl)) (cons (opv (Ev.eql_slnil Tryz.underlying26 (.t rfl) (.c rfl)) ?_))))))))
  refine nil (pN ?_)
  first | refine condD rfl (fun h0 => ?_) (fun h0 => ?_) | refine cond rfl (fun h0 => ?_) (fun h0 => ?_)
  · try simp only [nb] at h0
    refine seq (region (takeNil eMirrorConf 59 ?_))
    refine cons (opv (Ev.assign (.c (v := (Go.Value.slice none 0 0)) rfl)) ?_)
    refine nil (pN (ret (pR (done rfl (.tmp rfl .nil) (retOE (by repeat first | exact mH | apply mT | apply mA) ?_)))))
    first | exact hc3 (by simpa using h0) | (symm; exact hc3 (by simpa using h0))
  · try simp only [nb] at h0
    refine skip (pN (seq (region (cons (buildSlice (E := eMirrorConf) Tryz.underlying26 ty59 z59 .nil rfl rfl (fun v1 => ?_))))))
    refine cons (opv (Ev.move (.t rfl)) (cons (append (E := eMirrorConf) Tryz.underlying26 ty59 rfl zb59 zs59 (.t rfl) (.t rfl) (fun _ => by repeat first | exact Upd.head | apply Upd.tail | apply Upd.right) (fun w I => hl.keep0 I.keeps) (⟨by (show _ ≤ 9223372036854775807); first | omega | (simp; done) | (simp; omega), by first | omega | (simp; done) | (simp; omega)⟩) (fun v2 => ?_))))
    refine cons (opv (Ev.assign (.t rfl)) (nil (pN (ret (done rfl (.tmp rfl .nil) (retOE (by repeat first | exact mH | apply mT | apply mA) ?_))))))
    simp

theorem equal_3 (u v : Value) (xs ys : List Int) (w : World) (hx : IsSl iE w u xs) (hy : IsSl iE w v ys) : Calls Tryz.prog 53 #[u, v] w (RetV w (.bool (decide (xs = ys)))) := by
  have hle := hx.le
  have hle2 := hy.le
  refine enter0 26 Tryz.func53 rfl rfl (Nat.le_of_ble_eq_true rfl) ?_
  refine seq (region (cons (opv (Ev.assign (.c (v := .bool false) rfl)) ?_)))
  refine nil (pN (seq (seq (region (cons (opv (Ev.move (.t rfl)) (cons (opv (Ev.len Tryz.underlying22 (.t rfl) (fun w I => hx.keep0 I.keeps)) ?_))))))))
  refine cons (opv (Ev.move (.t rfl)) (cons (opv (Ev.len Tryz.underlying22 (.t rfl) (fun w I => hy.keep0 I.keeps)) ?_)))
  refine cons (opv (Ev.neq_i (.t rfl) (.t rfl)) ?_)
  refine nil (pN ?_)
  first | refine condD rfl (fun h0 => ?_) (fun h0 => ?_) | refine cond rfl (fun h0 => ?_) (fun h0 => ?_)
  · try simp only [nb] at h0
    refine seq (region (cons (opv (Ev.assign (.c (v := .bool false) rfl)) ?_)))
    refine nil (pN (ret (pR (done rfl (.tmp rfl .nil) (retE ?_)))))
    have hz : ¬ xs = ys := fun e => h0 (by rw [e])
    rw [decide_eq_false hz]; rfl
  · try simp only [nb] at h0
    refine skip (pN (seq (seq (region (cons (opv (Ev.move (.t rfl)) (cons (opv (Ev.len Tryz.underlying22 (.t rfl) (fun w I => hx.keep0 I.keeps)) ?_))))))))
    refine cons (opv (Ev.move (.c (v := I 0) rfl)) ?_)
    refine nil (pN (block (loop (X := Int) (fun x : Int => (0 ≤ x ∧ x ≤ xs.length) ∧ (∀ k : Nat, k < x → xs.getD k iE.zero = ys.getD k iE.zero)) (fun x : Int => [(0, true, u), (1, true, v), (12, true, I xs.length), (13, true, I x)]) (fun x : Int => []) (fun x : Int => ((xs.length : Int) - x).toNat) (0) ⟨?_, ?_⟩ (by repeat first | exact Sub.nil | refine Sub.cons rfl ?_) (by repeat first | exact sR | exact sN | apply sC | apply sS | apply sA) (fun x hx => ?_))))
    · omega
    · intro k h; omega
    obtain ⟨i, rfl⟩ : ∃ y, y = x := ⟨x, rfl⟩
    obtain ⟨hi, hq⟩ : (0 ≤ i ∧ i ≤ xs.length) ∧ (∀ k : Nat, k < i → xs.getD k iE.zero = ys.getD k iE.zero) := hx
    show Sat _ _ [(0, true, u), (1, true, v), (12, true, I xs.length), (13, true, I i)] []
    refine seq (region (cons (opv (Ev.lss_i (.t rfl) (.t rfl)) ?_)))
    refine nil (pN (seq ?_))
    first | refine condD rfl (fun h1 => ?_) (fun h1 => ?_) | refine cond rfl (fun h1 => ?_) (fun h1 => ?_)
    · try simp only [nb] at h1
      refine skip (pN (seq (block (seq (region (cons (opv (Ev.move (.t rfl)) (cons (opv (Ev.assign (.t rfl)) (nil (pN (seq (draw' (by kernel_rfl) ?_)))))))))))))
      refine tk 0 rfl (Ev.move (.t rfl)) ?_
      refine tk 1 rfl (Ev.move (.t rfl)) ?_
      refine tk 2 rfl (Ev.indexAddr Tryz.underlying22 ty3 (.t rfl) (.t rfl) (fun w I => hx.keep0 I.keeps) (fun _ => by omega)) ?_
      refine tk 3 rfl (Ev.loadS0 ty3 (.t rfl) (fun w I => hx.keep0 I.keeps) (fun _ => by omega)) ?_
      refine tk 4 rfl (Ev.move (.t rfl)) ?_
      refine tk 5 rfl (Ev.move (.t rfl)) ?_
      refine tk 6 rfl (Ev.indexAddr Tryz.underlying22 ty3 (.t rfl) (.t rfl) (fun w I => hy.keep0 I.keeps) (fun _ => by omega)) ?_
      refine tk 7 rfl (Ev.loadS0 ty3 (.t rfl) (fun w I => hy.keep0 I.keeps) (fun _ => by omega)) ?_
      refine tk 8 rfl (Ev.neq_i (.t rfl) (.t rfl)) ?_
      refine ovr (pN ?_)
      first | refine condD rfl (fun h2 => ?_) (fun h2 => ?_) | refine cond rfl (fun h2 => ?_) (fun h2 => ?_)
      · try simp only [nb] at h2
        refine seq (region (cons (opv (Ev.assign (.c (v := .bool false) rfl)) ?_)))
        refine nil (pN (ret (bR (pR (pR (bR (pR (done rfl (.tmp rfl .nil) (retE ?_)))))))))
        have hz : ¬ xs = ys := fun e => by rw [e] at h2; simp at h2
        rw [decide_eq_false hz]; rfl
      · try simp only [nb] at h2
        refine skip (bN (pN (region (cons (opv (Ev.add_i (.t rfl) (.c (v := I 1) rfl) (fun _ => by omega)) ?_)))))
        refine cons (opv (Ev.move (.t rfl)) (nil (pN (next (X := Int) (i + 1) ⟨?_, ?_⟩ ?_ (by repeat first | exact Sub.nil | refine Sub.cons rfl ?_) (by repeat first | exact sR | exact sN | apply sC | apply sS | apply sA)))))
        · try dsimp only
          omega
        · try dsimp only
          intro k h
          by_cases e : (k : Int) < i
          · exact hq k e
          · obtain rfl : k = i.toNat := by omega
            simpa using h2
        · try dsimp only
          first | omega | (simp; omega)
    · try simp only [nb] at h1
      refine exit (pX (pX (bX (pN (seq (region (cons (opv (Ev.assign (.c (v := .bool true) rfl)) ?_))))))))
      refine nil (pN (ret (done rfl (.tmp rfl .nil) (retE ?_))))
      have hle' : xs.length = ys.length := by omega
      have hz : xs = ys := by
        refine List.ext_getElem hle' fun k h1 h2 => ?_
        have := hq k (by omega)
        simpa [List.getD, h1, h2] using this
      rw [decide_eq_true hz]; rfl

theorem equal_76 (u v : Value) (xs ys : List SRule) (w : World) (hx : IsSl eRule w u xs) (hy : IsSl eRule w v ys) : Calls Tryz.prog 54 #[u, v] w (RetV w (.bool (decide (xs = ys)))) := by
  have hle := hx.le
  have hle2 := hy.le
  refine enter0 26 Tryz.func54 rfl rfl (Nat.le_of_ble_eq_true rfl) ?_
  refine seq (region (cons (opv (Ev.assign (.c (v := .bool false) rfl)) ?_)))
  refine nil (pN (seq (seq (region (cons (opv (Ev.move (.t rfl)) (cons (opv (Ev.len Tryz.underlying24 (.t rfl) (fun w I => hx.keep0 I.keeps)) ?_))))))))
  refine cons (opv (Ev.move (.t rfl)) (cons (opv (Ev.len Tryz.underlying24 (.t rfl) (fun w I => hy.keep0 I.keeps)) ?_)))
  refine cons (opv (Ev.neq_i (.t rfl) (.t rfl)) ?_)
  refine nil (pN ?_)
  first | refine condD rfl (fun h0 => ?_) (fun h0 => ?_) | refine cond rfl (fun h0 => ?_) (fun h0 => ?_)
  · try simp only [nb] at h0
    refine seq (region (cons (opv (Ev.assign (.c (v := .bool false) rfl)) ?_)))
    refine nil (pN (ret (pR (done rfl (.tmp rfl .nil) (retE ?_)))))
    have hz : ¬ xs = ys := fun e => h0 (by rw [e])
    rw [decide_eq_false hz]; rfl
  · try simp only [nb] at h0
    refine skip (pN (seq (seq (region (cons (opv (Ev.move (.t rfl)) (cons (opv (Ev.len Tryz.underlying24 (.t rfl) (fun w I => hx.keep0 I.keeps)) ?_))))))))
    refine cons (opv (Ev.move (.c (v := I 0) rfl)) ?_)
    refine nil (pN (block (loop (X := Int) (fun x : Int => (0 ≤ x ∧ x ≤ xs.length) ∧ (∀ k : Nat, k < x → xs.getD k eRule.zero = ys.getD k eRule.zero)) (fun x : Int => [(0, true, u), (1, true, v), (12, true, I xs.length), (13, true, I x)]) (fun x : Int => []) (fun x : Int => ((xs.length : Int) - x).toNat) (0) ⟨?_, ?_⟩ (by repeat first | exact Sub.nil | refine Sub.cons rfl ?_) (by repeat first | exact sR | exact sN | apply sC | apply sS | apply sA) (fun x hx => ?_))))
    · omega
    · intro k h; omega
    obtain ⟨i, rfl⟩ : ∃ y, y = x := ⟨x, rfl⟩
    obtain ⟨hi, hq⟩ : (0 ≤ i ∧ i ≤ xs.length) ∧ (∀ k : Nat, k < i → xs.getD k eRule.zero = ys.getD k eRule.zero) := hx
    show Sat _ _ [(0, true, u), (1, true, v), (12, true, I xs.length), (13, true, I i)] []
    refine seq (region (cons (opv (Ev.lss_i (.t rfl) (.t rfl)) ?_)))
    refine nil (pN (seq ?_))
    first | refine condD rfl (fun h1 => ?_) (fun h1 => ?_) | refine cond rfl (fun h1 => ?_) (fun h1 => ?_)
    · try simp only [nb] at h1
      refine skip (pN (seq (block (seq (region (cons (opv (Ev.move (.t rfl)) (cons (opv (Ev.assign (.t rfl)) (nil (pN (seq (draw' (by kernel_rfl) ?_)))))))))))))
      refine tk 0 rfl (Ev.move (.t rfl)) ?_
      refine tk 1 rfl (Ev.move (.t rfl)) ?_
      refine tk 2 rfl (Ev.indexAddr Tryz.underlying24 ty76 (.t rfl) (.t rfl) (fun w I => hx.keep0 I.keeps) (fun _ => by omega)) ?_
      refine tk 3 rfl (Ev.loadS0 ty76 (.t rfl) (fun w I => hx.keep0 I.keeps) (fun _ => by omega)) ?_
      refine tk 4 rfl (Ev.move (.t rfl)) ?_
      refine tk 5 rfl (Ev.move (.t rfl)) ?_
      refine tk 6 rfl (Ev.indexAddr Tryz.underlying24 ty76 (.t rfl) (.t rfl) (fun w I => hy.keep0 I.keeps) (fun _ => by omega)) ?_
      refine tk 7 rfl (Ev.loadS0 ty76 (.t rfl) (fun w I => hy.keep0 I.keeps) (fun _ => by omega)) ?_
      refine tk 8 rfl (Ev.neqS rfl eqok76 rfl (by kernel_rfl) (.t rfl) (.t rfl)) ?_
      refine ovr (pN ?_)
      first | refine condD rfl (fun h2 => ?_) (fun h2 => ?_) | refine cond rfl (fun h2 => ?_) (fun h2 => ?_)
      · try simp only [nb] at h2
        refine seq (region (cons (opv (Ev.assign (.c (v := .bool false) rfl)) ?_)))
        refine nil (pN (ret (bR (pR (pR (bR (pR (done rfl (.tmp rfl .nil) (retE ?_)))))))))
        have hz : ¬ xs = ys := fun e => by rw [e] at h2; simp at h2
        rw [decide_eq_false hz]; rfl
      · try simp only [nb] at h2
        refine skip (bN (pN (region (cons (opv (Ev.add_i (.t rfl) (.c (v := I 1) rfl) (fun _ => by omega)) ?_)))))
        refine cons (opv (Ev.move (.t rfl)) (nil (pN (next (X := Int) (i + 1) ⟨?_, ?_⟩ ?_ (by repeat first | exact Sub.nil | refine Sub.cons rfl ?_) (by repeat first | exact sR | exact sN | apply sC | apply sS | apply sA)))))
        · try dsimp only
          omega
        · try dsimp only
          intro k h
          by_cases e : (k : Int) < i
          · exact hq k e
          · obtain rfl : k = i.toNat := by omega
            simpa using h2
        · try dsimp only
          first | omega | (simp; omega)
    · try simp only [nb] at h1
      refine exit (pX (pX (bX (pN (seq (region (cons (opv (Ev.assign (.c (v := .bool true) rfl)) ?_))))))))
      refine nil (pN (ret (done rfl (.tmp rfl .nil) (retE ?_))))
      have hle' : xs.length = ys.length := by omega
      have hz : xs = ys := by
        refine List.ext_getElem hle' fun k h1 h2 => ?_
        have := hq k (by omega)
        simpa [List.getD, h1, h2] using this
      rw [decide_eq_true hz]; rfl
end Go.Proofs.YtnoobdijbpmjkaaGreat
