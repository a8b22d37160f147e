/- conf -/
import Derived.Test.YtnoobdijbpmjkaaGreatC4
import Derived.Test.YtnoobdijbpmjkaaGreatGxT
set_option linter.unusedVariables false
set_option linter.unusedSimpArgs false
namespace Go.Proofs.YtnoobdijbpmjkaaGreat
open Go Go.Gx

/-- Without those from i to j. -/
def cutL {α : Type} (l : List α) (i j : Int) : List α := l.take i.toNat ++ l.drop j.toNat
theorem cut_take {α : Type} (l R : List α) {i j : Int} {m k : Nat} (h : 0 ≤ i ∧ i ≤ j ∧ j ≤ l.length) (hm : m = i.toNat + (l.length - j.toNat)) : ((l.take i.toNat ++ l.drop j.toNat ++ l.drop m).take m ++ R ++ (l.take i.toNat ++ l.drop j.toNat ++ l.drop m).drop k).take m = cutL l i j := by
  have e : (l.take i.toNat ++ l.drop j.toNat ++ l.drop m).take m = cutL l i j := by
    have hl : (l.take i.toNat ++ l.drop j.toNat).length = m := by simp; omega
    rw [← hl]
    exact List.take_left
  have hc : (cutL l i j).length = m := by unfold cutL; simp; omega
  rw [e, List.append_assoc, ← hc]
  exact List.take_left

theorem delete_3 (o : OV) (xs : List Int) (i j : Int) (w : World) (h : At (OwnS o.v iE xs 3) w) (hb : 0 ≤ i ∧ i ≤ j ∧ j ≤ xs.length) : Calls Tryz.prog 164 #[o.v, I i, I j] w (RetR w (OwnS o.v iE xs 3) (fun _ : OV => True) (fun o => o.v) (fun o => OwnS o.v iE (cutL xs i j) 3)) := by
  have hsh : Shq o.v xs.length := (IsSl.of_own h.1).shq
  have hle := (IsSl.of_own h.1).le
  refine enter (OwnS o.v iE xs 3).foot 33 [OwnS o.v iE xs 3] Tryz.func164 rfl rfl (Nat.le_of_ble_eq_true rfl) (start_at h) ?_
  refine seq (region (cons (opv (Ev.assign (.c (v := (Go.Value.slice none 0 0)) rfl)) ?_)))
  refine nil (pN (seq (region (cons (opv (Ev.move (.t rfl)) (cons (opv (Ev.move (.t rfl)) (cons (opv (Ev.move (.t rfl)) (cons (opv (Ev.move (.t rfl)) (cons (opv (Ev.len Tryz.underlying22 (.t rfl) (isSl_own (by repeat first | exact mH | apply mT | apply mA))) ?_)))))))))))))
  refine cons (opv (Ev.slice3 Tryz.underlying22 ty3 (.t rfl) (.t rfl) (.t rfl) (.t rfl) (isSl_own (by repeat first | exact mH | apply mT | apply mA)) (fun _ => by omega)) ?_)
  refine nil (pN (seq (seq (region (cons (opv (Ev.move (.t rfl)) (cons (opv (Ev.move (.t rfl)) (cons (opv (Ev.eql_i (.t rfl) (.t rfl)) ?_))))))))))
  refine nil (pN ?_)
  first | refine condD rfl (fun h0 => ?_) (fun h0 => ?_) | refine cond rfl (fun h0 => ?_) (fun h0 => ?_)
  · try simp only [nb] at h0
    refine seq (region (cons (opv (Ev.move (.t rfl)) (cons (opv (Ev.assign (.t rfl)) (nil (pN (ret (pR (done rfl (.tmp rfl .nil) (fun w I => ?_)))))))))))
    have e : cutL xs i j = xs := by
      unfold cutL
      rw [h0, List.take_append_drop]
    rw [e]
    exact retR o trivial rfl (by repeat first | exact mH | apply mT | apply mA) w I
  · try simp only [nb] at h0
    refine skip (pN (seq (region (cons (opv (Ev.move (.t rfl)) (cons (opv (Ev.len Tryz.underlying22 (.t rfl) (isSl_own (by repeat first | exact mH | apply mT | apply mA))) ?_)))))))
    refine cons (opv (Ev.assign (.t rfl)) (nil (pN (seq (drawR .head (by kernel_rfl) ?_)))))
    refine tk 0 rfl (Ev.move (.t rfl)) ?_
    refine tk 1 rfl (Ev.move (.t rfl)) ?_
    refine tk 2 rfl (Ev.sliceHS Tryz.underlying22 ty3 (.t rfl) (.t rfl) hsh (fun _ => by omega)) ?_
    refine tk 3 rfl (Ev.move (.t rfl)) ?_
    refine tk 4 rfl (Ev.move (.t rfl)) ?_
    refine tk 5 rfl (Ev.sliceLS Tryz.underlying22 ty3 (.t rfl) (.t rfl) hsh (fun _ => by omega)) ?_
    refine al1 6 rfl ((appendCut (E := iE) Tryz.underlying22 ty3 (.t rfl) (.t rfl) (by repeat first | exact Upd.head | apply Upd.tail | apply Upd.right) ⟨by omega, by omega⟩ ?_))
    refine hdn (tk 7 rfl (Ev.assign (.t rfl)) ?_)
    refine ovr (pN (seq (region (cons (opv (Ev.move (.t rfl)) (cons (opv (Ev.move (.t rfl)) (cons (opv (Ev.to (v' := I (((i.toNat + (xs.length - j.toNat)) : Nat) : Int)) (Ev.len Tryz.underlying22 (.t rfl) (fun w I => IsSl.sub (xs := (xs.take i.toNat ++ xs.drop j.toNat ++ xs.drop (i.toNat + (xs.length - j.toNat)))) (isSl_own (by repeat first | exact mH | apply mT | apply mA) w I) (l := 0) (k := (i.toNat + (xs.length - j.toNat))) (Nat.zero_le _) (by simp; omega))) (congrArg (fun n : Nat => I (n : Int)) (by simp; omega))) ?_)))))))))
    refine cons (opv (Ev.move (.t rfl)) (cons (opv (Ev.sliceUp2 (xs := (xs.take i.toNat ++ xs.drop j.toNat ++ xs.drop (i.toNat + (xs.length - j.toNat)))) (l := ((i.toNat + (xs.length - j.toNat)) : Nat)) (k := xs.length) Tryz.underlying22 ty3 (.t rfl) (.t rfl) (.t rfl) (isSl_own (by repeat first | exact mH | apply mT | apply mA)) (fun _ => by simp; omega)) ?_)))
    refine cons (clearO (E := iE) (xs := (xs.take i.toNat ++ xs.drop j.toNat ++ xs.drop (i.toNat + (xs.length - j.toNat)))) (l := (i.toNat + (xs.length - j.toNat))) (k := xs.length) Tryz.underlying22 z3 rfl (.t rfl) (by repeat first | exact Upd.head | apply Upd.tail | apply Upd.right) ⟨by omega, by simp; omega⟩ ?_)
    refine nil (pN (seq (region (cutOwn (E := iE) (i.toNat + (xs.length - j.toNat)) (by repeat first | exact Upd.head | apply Upd.tail | apply Upd.right) (by simp; omega) ?_))))
    rw [cut_take xs _ hb rfl]
    refine cons (opv (Ev.move (.t rfl)) (cons (opv (Ev.assign (.t rfl)) (nil (pN (ret (done rfl (.tmp rfl .nil) (fun w I => ?_))))))))
    exact retR (OV.sub iE.size o 0 (i.toNat + (xs.length - j.toNat))) trivial rfl (by repeat first | exact mH | apply mT | apply mA) w I

theorem en164 : Gx.Enters Tryz.prog 164 := Gx.Enters.mk' (by kernel_rfl)

theorem cut_3 (o : OV) (xs : List Int) (i : Int) (w : World) (h : At (OwnS o.v iE xs 3) w) (hi : i < xs.length) : Calls Tryz.prog 137 #[o.v, I i] w (RetR w (OwnS o.v iE xs 3) (fun _ : OV => True) (fun o => .tuple #[o.v, .bool (decide (¬ i < 0))]) (fun o => OwnS o.v iE (if i < 0 then xs else cutL xs i (i + 1)) 3)) := by
  have hle := (IsSl.of_own h.1).le
  refine enter (OwnS o.v iE xs 3).foot 14 [OwnS o.v iE xs 3] Tryz.func137 rfl rfl (Nat.le_of_ble_eq_true rfl) (start_at h) ?_
  refine seq (region (cons (opv (Ev.assign (.c (v := (Go.Value.slice none 0 0)) rfl)) ?_)))
  refine cons (opv (Ev.assign (.c (v := .bool false) rfl)) ?_)
  refine nil (pN (seq (seq (region (cons (opv (Ev.move (.t rfl)) (cons (opv (Ev.lss_i (.t rfl) (.c (v := I 0) rfl)) ?_))))))))
  refine nil (pN ?_)
  first | refine condD rfl (fun h0 => ?_) (fun h0 => ?_) | refine cond rfl (fun h0 => ?_) (fun h0 => ?_)
  · try simp only [nb] at h0
    refine seq (region (cons (opv (Ev.move (.t rfl)) (cons (opv (Ev.assign (.t rfl)) (cons (opv (Ev.assign (.c (v := .bool false) rfl)) ?_)))))))
    refine nil (pN (ret (pR (done rfl (.tmp rfl (.tmp rfl .nil)) (fun w I => ?_)))))
    rw [if_pos h0]
    exact retR o trivial (by simp [h0]) (by repeat first | exact mH | apply mT | apply mA) w I
  · try simp only [nb] at h0
    refine skip (pN (seq (region (cons (opv (Ev.move (.t rfl)) (cons (opv (Ev.move (.t rfl)) (cons (opv (Ev.move (.t rfl)) (cons (opv (Ev.add_i (.t rfl) (.c (v := I 1) rfl) (fun _ => by omega)) ?_)))))))))))
    refine cons (callr (X := OV) (fun _ => True) (fun o => o.v) (fun _ => by repeat first | exact Upd.head | apply Upd.tail | apply Upd.right) (by repeat first | exact mH | apply mT | apply mA) en164 (.cons (.t rfl) (.cons (.t rfl) (.cons (.t rfl) .nil))) (fun w I => delete_3 o xs i (i + 1) w (at_mem (by repeat first | exact mH | apply mT | apply mA) w I) ⟨by omega, by omega, by omega⟩) (fun o2 _ => ?_))
    refine cons (opv (Ev.assign (.t rfl)) (cons (opv (Ev.assign (.c (v := .bool true) rfl)) ?_)))
    refine nil (pN (ret (done rfl (.tmp rfl (.tmp rfl .nil)) (fun w I => ?_))))
    rw [if_neg h0]
    exact retR o2 trivial (by simp [h0]) (by repeat first | exact mH | apply mT | apply mA) w I

theorem delete_52 (o : OV) (xs : List SRoute) (i j : Int) (w : World) (h : At (OwnS o.v eRoute xs 52) w) (hb : 0 ≤ i ∧ i ≤ j ∧ j ≤ xs.length) : Calls Tryz.prog 165 #[o.v, I i, I j] w (RetR w (OwnS o.v eRoute xs 52) (fun _ : OV => True) (fun o => o.v) (fun o => OwnS o.v eRoute (cutL xs i j) 52)) := by
  have hsh : Shq o.v xs.length := (IsSl.of_own h.1).shq
  have hle := (IsSl.of_own h.1).le
  refine enter (OwnS o.v eRoute xs 52).foot 33 [OwnS o.v eRoute xs 52] Tryz.func165 rfl rfl (Nat.le_of_ble_eq_true rfl) (start_at h) ?_
  refine seq (region (cons (opv (Ev.assign (.c (v := (Go.Value.slice none 0 0)) rfl)) ?_)))
  refine nil (pN (seq (region (cons (opv (Ev.move (.t rfl)) (cons (opv (Ev.move (.t rfl)) (cons (opv (Ev.move (.t rfl)) (cons (opv (Ev.move (.t rfl)) (cons (opv (Ev.len Tryz.underlying23 (.t rfl) (isSl_own (by repeat first | exact mH | apply mT | apply mA))) ?_)))))))))))))
  refine cons (opv (Ev.slice3 Tryz.underlying23 ty52 (.t rfl) (.t rfl) (.t rfl) (.t rfl) (isSl_own (by repeat first | exact mH | apply mT | apply mA)) (fun _ => by omega)) ?_)
  refine nil (pN (seq (seq (region (cons (opv (Ev.move (.t rfl)) (cons (opv (Ev.move (.t rfl)) (cons (opv (Ev.eql_i (.t rfl) (.t rfl)) ?_))))))))))
  refine nil (pN ?_)
  first | refine condD rfl (fun h0 => ?_) (fun h0 => ?_) | refine cond rfl (fun h0 => ?_) (fun h0 => ?_)
  · try simp only [nb] at h0
    refine seq (region (cons (opv (Ev.move (.t rfl)) (cons (opv (Ev.assign (.t rfl)) (nil (pN (ret (pR (done rfl (.tmp rfl .nil) (fun w I => ?_)))))))))))
    have e : cutL xs i j = xs := by
      unfold cutL
      rw [h0, List.take_append_drop]
    rw [e]
    exact retR o trivial rfl (by repeat first | exact mH | apply mT | apply mA) w I
  · try simp only [nb] at h0
    refine skip (pN (seq (region (cons (opv (Ev.move (.t rfl)) (cons (opv (Ev.len Tryz.underlying23 (.t rfl) (isSl_own (by repeat first | exact mH | apply mT | apply mA))) ?_)))))))
    refine cons (opv (Ev.assign (.t rfl)) (nil (pN (seq (drawR .head (by kernel_rfl) ?_)))))
    refine tk 0 rfl (Ev.move (.t rfl)) ?_
    refine tk 1 rfl (Ev.move (.t rfl)) ?_
    refine tk 2 rfl (Ev.sliceHS Tryz.underlying23 ty52 (.t rfl) (.t rfl) hsh (fun _ => by omega)) ?_
    refine tk 3 rfl (Ev.move (.t rfl)) ?_
    refine tk 4 rfl (Ev.move (.t rfl)) ?_
    refine tk 5 rfl (Ev.sliceLS Tryz.underlying23 ty52 (.t rfl) (.t rfl) hsh (fun _ => by omega)) ?_
    refine al1 6 rfl ((appendCut (E := eRoute) Tryz.underlying23 ty52 (.t rfl) (.t rfl) (by repeat first | exact Upd.head | apply Upd.tail | apply Upd.right) ⟨by omega, by omega⟩ ?_))
    refine hdn (tk 7 rfl (Ev.assign (.t rfl)) ?_)
    refine ovr (pN (seq (region (cons (opv (Ev.move (.t rfl)) (cons (opv (Ev.move (.t rfl)) (cons (opv (Ev.to (v' := I (((i.toNat + (xs.length - j.toNat)) : Nat) : Int)) (Ev.len Tryz.underlying23 (.t rfl) (fun w I => IsSl.sub (xs := (xs.take i.toNat ++ xs.drop j.toNat ++ xs.drop (i.toNat + (xs.length - j.toNat)))) (isSl_own (by repeat first | exact mH | apply mT | apply mA) w I) (l := 0) (k := (i.toNat + (xs.length - j.toNat))) (Nat.zero_le _) (by simp; omega))) (congrArg (fun n : Nat => I (n : Int)) (by simp; omega))) ?_)))))))))
    refine cons (opv (Ev.move (.t rfl)) (cons (opv (Ev.sliceUp2 (xs := (xs.take i.toNat ++ xs.drop j.toNat ++ xs.drop (i.toNat + (xs.length - j.toNat)))) (l := ((i.toNat + (xs.length - j.toNat)) : Nat)) (k := xs.length) Tryz.underlying23 ty52 (.t rfl) (.t rfl) (.t rfl) (isSl_own (by repeat first | exact mH | apply mT | apply mA)) (fun _ => by simp; omega)) ?_)))
    refine cons (clearO (E := eRoute) (xs := (xs.take i.toNat ++ xs.drop j.toNat ++ xs.drop (i.toNat + (xs.length - j.toNat)))) (l := (i.toNat + (xs.length - j.toNat))) (k := xs.length) Tryz.underlying23 z52 rfl (.t rfl) (by repeat first | exact Upd.head | apply Upd.tail | apply Upd.right) ⟨by omega, by simp; omega⟩ ?_)
    refine nil (pN (seq (region (cutOwn (E := eRoute) (i.toNat + (xs.length - j.toNat)) (by repeat first | exact Upd.head | apply Upd.tail | apply Upd.right) (by simp; omega) ?_))))
    rw [cut_take xs _ hb rfl]
    refine cons (opv (Ev.move (.t rfl)) (cons (opv (Ev.assign (.t rfl)) (nil (pN (ret (done rfl (.tmp rfl .nil) (fun w I => ?_))))))))
    exact retR (OV.sub eRoute.size o 0 (i.toNat + (xs.length - j.toNat))) trivial rfl (by repeat first | exact mH | apply mT | apply mA) w I

theorem en165 : Gx.Enters Tryz.prog 165 := Gx.Enters.mk' (by kernel_rfl)

theorem cut_52 (o : OV) (xs : List SRoute) (i : Int) (w : World) (h : At (OwnS o.v eRoute xs 52) w) (hi : i < xs.length) : Calls Tryz.prog 139 #[o.v, I i] w (RetR w (OwnS o.v eRoute xs 52) (fun _ : OV => True) (fun o => .tuple #[o.v, .bool (decide (¬ i < 0))]) (fun o => OwnS o.v eRoute (if i < 0 then xs else cutL xs i (i + 1)) 52)) := by
  have hle := (IsSl.of_own h.1).le
  refine enter (OwnS o.v eRoute xs 52).foot 14 [OwnS o.v eRoute xs 52] Tryz.func139 rfl rfl (Nat.le_of_ble_eq_true rfl) (start_at h) ?_
  refine seq (region (cons (opv (Ev.assign (.c (v := (Go.Value.slice none 0 0)) rfl)) ?_)))
  refine cons (opv (Ev.assign (.c (v := .bool false) rfl)) ?_)
  refine nil (pN (seq (seq (region (cons (opv (Ev.move (.t rfl)) (cons (opv (Ev.lss_i (.t rfl) (.c (v := I 0) rfl)) ?_))))))))
  refine nil (pN ?_)
  first | refine condD rfl (fun h0 => ?_) (fun h0 => ?_) | refine cond rfl (fun h0 => ?_) (fun h0 => ?_)
  · try simp only [nb] at h0
    refine seq (region (cons (opv (Ev.move (.t rfl)) (cons (opv (Ev.assign (.t rfl)) (cons (opv (Ev.assign (.c (v := .bool false) rfl)) ?_)))))))
    refine nil (pN (ret (pR (done rfl (.tmp rfl (.tmp rfl .nil)) (fun w I => ?_)))))
    rw [if_pos h0]
    exact retR o trivial (by simp [h0]) (by repeat first | exact mH | apply mT | apply mA) w I
  · try simp only [nb] at h0
    refine skip (pN (seq (region (cons (opv (Ev.move (.t rfl)) (cons (opv (Ev.move (.t rfl)) (cons (opv (Ev.move (.t rfl)) (cons (opv (Ev.add_i (.t rfl) (.c (v := I 1) rfl) (fun _ => by omega)) ?_)))))))))))
    refine cons (callr (X := OV) (fun _ => True) (fun o => o.v) (fun _ => by repeat first | exact Upd.head | apply Upd.tail | apply Upd.right) (by repeat first | exact mH | apply mT | apply mA) en165 (.cons (.t rfl) (.cons (.t rfl) (.cons (.t rfl) .nil))) (fun w I => delete_52 o xs i (i + 1) w (at_mem (by repeat first | exact mH | apply mT | apply mA) w I) ⟨by omega, by omega, by omega⟩) (fun o2 _ => ?_))
    refine cons (opv (Ev.assign (.t rfl)) (cons (opv (Ev.assign (.c (v := .bool true) rfl)) ?_)))
    refine nil (pN (ret (done rfl (.tmp rfl (.tmp rfl .nil)) (fun w I => ?_))))
    rw [if_neg h0]
    exact retR o2 trivial (by simp [h0]) (by repeat first | exact mH | apply mT | apply mA) w I

theorem delete_57 (o : OV) (xs : List SMeterConf) (i j : Int) (w : World) (h : At (OwnS o.v eMeterConf xs 57) w) (hb : 0 ≤ i ∧ i ≤ j ∧ j ≤ xs.length) : Calls Tryz.prog 166 #[o.v, I i, I j] w (RetR w (OwnS o.v eMeterConf xs 57) (fun _ : OV => True) (fun o => o.v) (fun o => OwnS o.v eMeterConf (cutL xs i j) 57)) := by
  have hsh : Shq o.v xs.length := (IsSl.of_own h.1).shq
  have hle := (IsSl.of_own h.1).le
  refine enter (OwnS o.v eMeterConf xs 57).foot 33 [OwnS o.v eMeterConf xs 57] Tryz.func166 rfl rfl (Nat.le_of_ble_eq_true rfl) (start_at h) ?_
  refine seq (region (cons (opv (Ev.assign (.c (v := (Go.Value.slice none 0 0)) rfl)) ?_)))
  refine nil (pN (seq (region (cons (opv (Ev.move (.t rfl)) (cons (opv (Ev.move (.t rfl)) (cons (opv (Ev.move (.t rfl)) (cons (opv (Ev.move (.t rfl)) (cons (opv (Ev.len Tryz.underlying25 (.t rfl) (isSl_own (by repeat first | exact mH | apply mT | apply mA))) ?_)))))))))))))
  refine cons (opv (Ev.slice3 Tryz.underlying25 ty57 (.t rfl) (.t rfl) (.t rfl) (.t rfl) (isSl_own (by repeat first | exact mH | apply mT | apply mA)) (fun _ => by omega)) ?_)
  refine nil (pN (seq (seq (region (cons (opv (Ev.move (.t rfl)) (cons (opv (Ev.move (.t rfl)) (cons (opv (Ev.eql_i (.t rfl) (.t rfl)) ?_))))))))))
  refine nil (pN ?_)
  first | refine condD rfl (fun h0 => ?_) (fun h0 => ?_) | refine cond rfl (fun h0 => ?_) (fun h0 => ?_)
  · try simp only [nb] at h0
    refine seq (region (cons (opv (Ev.move (.t rfl)) (cons (opv (Ev.assign (.t rfl)) (nil (pN (ret (pR (done rfl (.tmp rfl .nil) (fun w I => ?_)))))))))))
    have e : cutL xs i j = xs := by
      unfold cutL
      rw [h0, List.take_append_drop]
    rw [e]
    exact retR o trivial rfl (by repeat first | exact mH | apply mT | apply mA) w I
  · try simp only [nb] at h0
    refine skip (pN (seq (region (cons (opv (Ev.move (.t rfl)) (cons (opv (Ev.len Tryz.underlying25 (.t rfl) (isSl_own (by repeat first | exact mH | apply mT | apply mA))) ?_)))))))
    refine cons (opv (Ev.assign (.t rfl)) (nil (pN (seq (drawR .head (by kernel_rfl) ?_)))))
    refine tk 0 rfl (Ev.move (.t rfl)) ?_
    refine tk 1 rfl (Ev.move (.t rfl)) ?_
    refine tk 2 rfl (Ev.sliceHS Tryz.underlying25 ty57 (.t rfl) (.t rfl) hsh (fun _ => by omega)) ?_
    refine tk 3 rfl (Ev.move (.t rfl)) ?_
    refine tk 4 rfl (Ev.move (.t rfl)) ?_
    refine tk 5 rfl (Ev.sliceLS Tryz.underlying25 ty57 (.t rfl) (.t rfl) hsh (fun _ => by omega)) ?_
    refine al1 6 rfl ((appendCut (E := eMeterConf) Tryz.underlying25 ty57 (.t rfl) (.t rfl) (by repeat first | exact Upd.head | apply Upd.tail | apply Upd.right) ⟨by omega, by omega⟩ ?_))
    refine hdn (tk 7 rfl (Ev.assign (.t rfl)) ?_)
    refine ovr (pN (seq (region (cons (opv (Ev.move (.t rfl)) (cons (opv (Ev.move (.t rfl)) (cons (opv (Ev.to (v' := I (((i.toNat + (xs.length - j.toNat)) : Nat) : Int)) (Ev.len Tryz.underlying25 (.t rfl) (fun w I => IsSl.sub (xs := (xs.take i.toNat ++ xs.drop j.toNat ++ xs.drop (i.toNat + (xs.length - j.toNat)))) (isSl_own (by repeat first | exact mH | apply mT | apply mA) w I) (l := 0) (k := (i.toNat + (xs.length - j.toNat))) (Nat.zero_le _) (by simp; omega))) (congrArg (fun n : Nat => I (n : Int)) (by simp; omega))) ?_)))))))))
    refine cons (opv (Ev.move (.t rfl)) (cons (opv (Ev.sliceUp2 (xs := (xs.take i.toNat ++ xs.drop j.toNat ++ xs.drop (i.toNat + (xs.length - j.toNat)))) (l := ((i.toNat + (xs.length - j.toNat)) : Nat)) (k := xs.length) Tryz.underlying25 ty57 (.t rfl) (.t rfl) (.t rfl) (isSl_own (by repeat first | exact mH | apply mT | apply mA)) (fun _ => by simp; omega)) ?_)))
    refine cons (clearO (E := eMeterConf) (xs := (xs.take i.toNat ++ xs.drop j.toNat ++ xs.drop (i.toNat + (xs.length - j.toNat)))) (l := (i.toNat + (xs.length - j.toNat))) (k := xs.length) Tryz.underlying25 z57 rfl (.t rfl) (by repeat first | exact Upd.head | apply Upd.tail | apply Upd.right) ⟨by omega, by simp; omega⟩ ?_)
    refine nil (pN (seq (region (cutOwn (E := eMeterConf) (i.toNat + (xs.length - j.toNat)) (by repeat first | exact Upd.head | apply Upd.tail | apply Upd.right) (by simp; omega) ?_))))
    rw [cut_take xs _ hb rfl]
    refine cons (opv (Ev.move (.t rfl)) (cons (opv (Ev.assign (.t rfl)) (nil (pN (ret (done rfl (.tmp rfl .nil) (fun w I => ?_))))))))
    exact retR (OV.sub eMeterConf.size o 0 (i.toNat + (xs.length - j.toNat))) trivial rfl (by repeat first | exact mH | apply mT | apply mA) w I

theorem en166 : Gx.Enters Tryz.prog 166 := Gx.Enters.mk' (by kernel_rfl)

theorem cut_57 (o : OV) (xs : List SMeterConf) (i : Int) (w : World) (h : At (OwnS o.v eMeterConf xs 57) w) (hi : i < xs.length) : Calls Tryz.prog 141 #[o.v, I i] w (RetR w (OwnS o.v eMeterConf xs 57) (fun _ : OV => True) (fun o => .tuple #[o.v, .bool (decide (¬ i < 0))]) (fun o => OwnS o.v eMeterConf (if i < 0 then xs else cutL xs i (i + 1)) 57)) := by
  have hle := (IsSl.of_own h.1).le
  refine enter (OwnS o.v eMeterConf xs 57).foot 14 [OwnS o.v eMeterConf xs 57] Tryz.func141 rfl rfl (Nat.le_of_ble_eq_true rfl) (start_at h) ?_
  refine seq (region (cons (opv (Ev.assign (.c (v := (Go.Value.slice none 0 0)) rfl)) ?_)))
  refine cons (opv (Ev.assign (.c (v := .bool false) rfl)) ?_)
  refine nil (pN (seq (seq (region (cons (opv (Ev.move (.t rfl)) (cons (opv (Ev.lss_i (.t rfl) (.c (v := I 0) rfl)) ?_))))))))
  refine nil (pN ?_)
  first | refine condD rfl (fun h0 => ?_) (fun h0 => ?_) | refine cond rfl (fun h0 => ?_) (fun h0 => ?_)
  · try simp only [nb] at h0
    refine seq (region (cons (opv (Ev.move (.t rfl)) (cons (opv (Ev.assign (.t rfl)) (cons (opv (Ev.assign (.c (v := .bool false) rfl)) ?_)))))))
    refine nil (pN (ret (pR (done rfl (.tmp rfl (.tmp rfl .nil)) (fun w I => ?_)))))
    rw [if_pos h0]
    exact retR o trivial (by simp [h0]) (by repeat first | exact mH | apply mT | apply mA) w I
  · try simp only [nb] at h0
    refine skip (pN (seq (region (cons (opv (Ev.move (.t rfl)) (cons (opv (Ev.move (.t rfl)) (cons (opv (Ev.move (.t rfl)) (cons (opv (Ev.add_i (.t rfl) (.c (v := I 1) rfl) (fun _ => by omega)) ?_)))))))))))
    refine cons (callr (X := OV) (fun _ => True) (fun o => o.v) (fun _ => by repeat first | exact Upd.head | apply Upd.tail | apply Upd.right) (by repeat first | exact mH | apply mT | apply mA) en166 (.cons (.t rfl) (.cons (.t rfl) (.cons (.t rfl) .nil))) (fun w I => delete_57 o xs i (i + 1) w (at_mem (by repeat first | exact mH | apply mT | apply mA) w I) ⟨by omega, by omega, by omega⟩) (fun o2 _ => ?_))
    refine cons (opv (Ev.assign (.t rfl)) (cons (opv (Ev.assign (.c (v := .bool true) rfl)) ?_)))
    refine nil (pN (ret (done rfl (.tmp rfl (.tmp rfl .nil)) (fun w I => ?_))))
    rw [if_neg h0]
    exact retR o2 trivial (by simp [h0]) (by repeat first | exact mH | apply mT | apply mA) w I

theorem delete_59 (o : OV) (xs : List SMirrorConf) (i j : Int) (w : World) (h : At (OwnS o.v eMirrorConf xs 59) w) (hb : 0 ≤ i ∧ i ≤ j ∧ j ≤ xs.length) : Calls Tryz.prog 167 #[o.v, I i, I j] w (RetR w (OwnS o.v eMirrorConf xs 59) (fun _ : OV => True) (fun o => o.v) (fun o => OwnS o.v eMirrorConf (cutL xs i j) 59)) := by
  have hsh : Shq o.v xs.length := (IsSl.of_own h.1).shq
  have hle := (IsSl.of_own h.1).le
  refine enter (OwnS o.v eMirrorConf xs 59).foot 33 [OwnS o.v eMirrorConf xs 59] Tryz.func167 rfl rfl (Nat.le_of_ble_eq_true rfl) (start_at h) ?_
  refine seq (region (cons (opv (Ev.assign (.c (v := (Go.Value.slice none 0 0)) rfl)) ?_)))
  refine nil (pN (seq (region (cons (opv (Ev.move (.t rfl)) (cons (opv (Ev.move (.t rfl)) (cons (opv (Ev.move (.t rfl)) (cons (opv (Ev.move (.t rfl)) (cons (opv (Ev.len Tryz.underlying26 (.t rfl) (isSl_own (by repeat first | exact mH | apply mT | apply mA))) ?_)))))))))))))
  refine cons (opv (Ev.slice3 Tryz.underlying26 ty59 (.t rfl) (.t rfl) (.t rfl) (.t rfl) (isSl_own (by repeat first | exact mH | apply mT | apply mA)) (fun _ => by omega)) ?_)
  refine nil (pN (seq (seq (region (cons (opv (Ev.move (.t rfl)) (cons (opv (Ev.move (.t rfl)) (cons (opv (Ev.eql_i (.t rfl) (.t rfl)) ?_))))))))))
  refine nil (pN ?_)
  first | refine condD rfl (fun h0 => ?_) (fun h0 => ?_) | refine cond rfl (fun h0 => ?_) (fun h0 => ?_)
  · try simp only [nb] at h0
    refine seq (region (cons (opv (Ev.move (.t rfl)) (cons (opv (Ev.assign (.t rfl)) (nil (pN (ret (pR (done rfl (.tmp rfl .nil) (fun w I => ?_)))))))))))
    have e : cutL xs i j = xs := by
      unfold cutL
      rw [h0, List.take_append_drop]
    rw [e]
    exact retR o trivial rfl (by repeat first | exact mH | apply mT | apply mA) w I
  · try simp only [nb] at h0
    refine skip (pN (seq (region (cons (opv (Ev.move (.t rfl)) (cons (opv (Ev.len Tryz.underlying26 (.t rfl) (isSl_own (by repeat first | exact mH | apply mT | apply mA))) ?_)))))))
    refine cons (opv (Ev.assign (.t rfl)) (nil (pN (seq (drawR .head (by kernel_rfl) ?_)))))
    refine tk 0 rfl (Ev.move (.t rfl)) ?_
    refine tk 1 rfl (Ev.move (.t rfl)) ?_
    refine tk 2 rfl (Ev.sliceHS Tryz.underlying26 ty59 (.t rfl) (.t rfl) hsh (fun _ => by omega)) ?_
    refine tk 3 rfl (Ev.move (.t rfl)) ?_
    refine tk 4 rfl (Ev.move (.t rfl)) ?_
    refine tk 5 rfl (Ev.sliceLS Tryz.underlying26 ty59 (.t rfl) (.t rfl) hsh (fun _ => by omega)) ?_
    refine al1 6 rfl ((appendCut (E := eMirrorConf) Tryz.underlying26 ty59 (.t rfl) (.t rfl) (by repeat first | exact Upd.head | apply Upd.tail | apply Upd.right) ⟨by omega, by omega⟩ ?_))
    refine hdn (tk 7 rfl (Ev.assign (.t rfl)) ?_)
    refine ovr (pN (seq (region (cons (opv (Ev.move (.t rfl)) (cons (opv (Ev.move (.t rfl)) (cons (opv (Ev.to (v' := I (((i.toNat + (xs.length - j.toNat)) : Nat) : Int)) (Ev.len Tryz.underlying26 (.t rfl) (fun w I => IsSl.sub (xs := (xs.take i.toNat ++ xs.drop j.toNat ++ xs.drop (i.toNat + (xs.length - j.toNat)))) (isSl_own (by repeat first | exact mH | apply mT | apply mA) w I) (l := 0) (k := (i.toNat + (xs.length - j.toNat))) (Nat.zero_le _) (by simp; omega))) (congrArg (fun n : Nat => I (n : Int)) (by simp; omega))) ?_)))))))))
    refine cons (opv (Ev.move (.t rfl)) (cons (opv (Ev.sliceUp2 (xs := (xs.take i.toNat ++ xs.drop j.toNat ++ xs.drop (i.toNat + (xs.length - j.toNat)))) (l := ((i.toNat + (xs.length - j.toNat)) : Nat)) (k := xs.length) Tryz.underlying26 ty59 (.t rfl) (.t rfl) (.t rfl) (isSl_own (by repeat first | exact mH | apply mT | apply mA)) (fun _ => by simp; omega)) ?_)))
    refine cons (clearO (E := eMirrorConf) (xs := (xs.take i.toNat ++ xs.drop j.toNat ++ xs.drop (i.toNat + (xs.length - j.toNat)))) (l := (i.toNat + (xs.length - j.toNat))) (k := xs.length) Tryz.underlying26 z59 rfl (.t rfl) (by repeat first | exact Upd.head | apply Upd.tail | apply Upd.right) ⟨by omega, by simp; omega⟩ ?_)
    refine nil (pN (seq (region (cutOwn (E := eMirrorConf) (i.toNat + (xs.length - j.toNat)) (by repeat first | exact Upd.head | apply Upd.tail | apply Upd.right) (by simp; omega) ?_))))
    rw [cut_take xs _ hb rfl]
    refine cons (opv (Ev.move (.t rfl)) (cons (opv (Ev.assign (.t rfl)) (nil (pN (ret (done rfl (.tmp rfl .nil) (fun w I => ?_))))))))
    exact retR (OV.sub eMirrorConf.size o 0 (i.toNat + (xs.length - j.toNat))) trivial rfl (by repeat first | exact mH | apply mT | apply mA) w I

theorem en167 : Gx.Enters Tryz.prog 167 := Gx.Enters.mk' (by kernel_rfl)

theorem cut_59 (o : OV) (xs : List SMirrorConf) (i : Int) (w : World) (h : At (OwnS o.v eMirrorConf xs 59) w) (hi : i < xs.length) : Calls Tryz.prog 143 #[o.v, I i] w (RetR w (OwnS o.v eMirrorConf xs 59) (fun _ : OV => True) (fun o => .tuple #[o.v, .bool (decide (¬ i < 0))]) (fun o => OwnS o.v eMirrorConf (if i < 0 then xs else cutL xs i (i + 1)) 59)) := by
  have hle := (IsSl.of_own h.1).le
  refine enter (OwnS o.v eMirrorConf xs 59).foot 14 [OwnS o.v eMirrorConf xs 59] Tryz.func143 rfl rfl (Nat.le_of_ble_eq_true rfl) (start_at h) ?_
  refine seq (region (cons (opv (Ev.assign (.c (v := (Go.Value.slice none 0 0)) rfl)) ?_)))
  refine cons (opv (Ev.assign (.c (v := .bool false) rfl)) ?_)
  refine nil (pN (seq (seq (region (cons (opv (Ev.move (.t rfl)) (cons (opv (Ev.lss_i (.t rfl) (.c (v := I 0) rfl)) ?_))))))))
  refine nil (pN ?_)
  first | refine condD rfl (fun h0 => ?_) (fun h0 => ?_) | refine cond rfl (fun h0 => ?_) (fun h0 => ?_)
  · try simp only [nb] at h0
    refine seq (region (cons (opv (Ev.move (.t rfl)) (cons (opv (Ev.assign (.t rfl)) (cons (opv (Ev.assign (.c (v := .bool false) rfl)) ?_)))))))
    refine nil (pN (ret (pR (done rfl (.tmp rfl (.tmp rfl .nil)) (fun w I => ?_)))))
    rw [if_pos h0]
    exact retR o trivial (by simp [h0]) (by repeat first | exact mH | apply mT | apply mA) w I
  · try simp only [nb] at h0
    refine skip (pN (seq (region (cons (opv (Ev.move (.t rfl)) (cons (opv (Ev.move (.t rfl)) (cons (opv (Ev.move (.t rfl)) (cons (opv (Ev.add_i (.t rfl) (.c (v := I 1) rfl) (fun _ => by omega)) ?_)))))))))))
    refine cons (callr (X := OV) (fun _ => True) (fun o => o.v) (fun _ => by repeat first | exact Upd.head | apply Upd.tail | apply Upd.right) (by repeat first | exact mH | apply mT | apply mA) en167 (.cons (.t rfl) (.cons (.t rfl) (.cons (.t rfl) .nil))) (fun w I => delete_59 o xs i (i + 1) w (at_mem (by repeat first | exact mH | apply mT | apply mA) w I) ⟨by omega, by omega, by omega⟩) (fun o2 _ => ?_))
    refine cons (opv (Ev.assign (.t rfl)) (cons (opv (Ev.assign (.c (v := .bool true) rfl)) ?_)))
    refine nil (pN (ret (done rfl (.tmp rfl (.tmp rfl .nil)) (fun w I => ?_))))
    rw [if_neg h0]
    exact retR o2 trivial (by simp [h0]) (by repeat first | exact mH | apply mT | apply mA) w I
end Go.Proofs.YtnoobdijbpmjkaaGreat
