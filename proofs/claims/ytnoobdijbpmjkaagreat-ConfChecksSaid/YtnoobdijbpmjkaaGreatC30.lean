/- conf -/
import Derived.Test.YtnoobdijbpmjkaaGreatC29
set_option linter.unusedVariables false
set_option linter.unusedSimpArgs false
namespace Go.Proofs.YtnoobdijbpmjkaaGreat
open Go Go.Gx

theorem isSl_all {α : Type} {E : Enc α} {w : World} {v : Value} {l : List α} {x : α} (h : IsSl E w v (l ++ [x])) : IsSl E w (subS E.size v 0 (l.length + 1)) (l ++ [x]) := by
  have := h.sub (l := 0) (k := l.length + 1) (by omega) (by simp)
  rwa [List.take_of_length_le (by simp), List.drop_zero] at this
theorem getD_mark {α : Type} (l : List α) (x z : α) (i : Nat) (h : i = l.length) : (l ++ [x]).getD i z = x := by
  subst h
  simp [List.getD]

theorem marked_ok (y : CB) (l : CL) (d : Int) (w : World) (hm : ConfAt w (y.c d) (markL l)) : Calls Tryz.prog 19 #[eConf.val ((subC y l).c d)] w (RetV w (.bool true)) := by
  have hs := hm.sub
  have hm0 : IsSl iE w y.o1.v (l.ps ++ [(777 : Int)]) := hm.ps
  have hle0 := hm0.le
  rw [List.length_append, List.length_singleton] at hle0
  have hm1 : IsSl eRoute w y.o2.v (l.rs ++ [mkRo]) := hm.rs
  have hle1 := hm1.le
  rw [List.length_append, List.length_singleton] at hle1
  have hm2 : IsSl eRule w y.o3.v (l.us ++ [mkRu]) := hm.us
  have hle2 := hm2.le
  rw [List.length_append, List.length_singleton] at hle2
  have hm3 : IsSl eMeterConf w y.o4.v (l.ms ++ [mkMe]) := hm.ms
  have hle3 := hm3.le
  rw [List.length_append, List.length_singleton] at hle3
  have hm4 : IsSl eMirrorConf w y.o5.v (l.xs ++ [mkMi]) := hm.xs
  have hle4 := hm4.le
  rw [List.length_append, List.length_singleton] at hle4
  refine enter0 80 Tryz.func19 rfl rfl (Nat.le_of_ble_eq_true rfl) ?_
  refine seq (region (cons (box (E := eConf) (.t rfl) (fun b1 => ?_))))
  refine cons (opv (Ev.assign (.c (v := .bool false) rfl)) ?_)
  refine nil (pN (seq (draw' (by kernel_rfl) ?_)))
  refine tk 0 rfl (Ev.fieldAddr (o := 0) (.t rfl) (by kernel_rfl)) ?_
  refine tk 1 rfl (Ev.ldv ty22 (.t rfl) SConf.l_ports) ?_
  refine tk 2 rfl (Ev.len Tryz.underlying22 (.t rfl) (fun w I => (hs.keep0 I.keeps).ps)) ?_
  refine tk 3 rfl (Ev.fieldAddr (o := 1) (.t rfl) (by kernel_rfl)) ?_
  refine tk 4 rfl (Ev.ldv ty23 (.t rfl) SConf.l_routes) ?_
  refine tk 5 rfl (Ev.len Tryz.underlying23 (.t rfl) (fun w I => (hs.keep0 I.keeps).rs)) ?_
  refine tk 6 rfl (Ev.fieldAddr (o := 2) (.t rfl) (by kernel_rfl)) ?_
  refine tk 7 rfl (Ev.ldv ty24 (.t rfl) SConf.l_rules) ?_
  refine tk 8 rfl (Ev.len Tryz.underlying24 (.t rfl) (fun w I => (hs.keep0 I.keeps).us)) ?_
  refine tk 9 rfl (Ev.fieldAddr (o := 3) (.t rfl) (by kernel_rfl)) ?_
  refine tk 10 rfl (Ev.ldv ty25 (.t rfl) SConf.l_meters) ?_
  refine tk 11 rfl (Ev.len Tryz.underlying25 (.t rfl) (fun w I => (hs.keep0 I.keeps).ms)) ?_
  refine tk 12 rfl (Ev.fieldAddr (o := 4) (.t rfl) (by kernel_rfl)) ?_
  refine tk 13 rfl (Ev.ldv ty26 (.t rfl) SConf.l_mirrors) ?_
  refine tk 14 rfl (Ev.len Tryz.underlying26 (.t rfl) (fun w I => (hs.keep0 I.keeps).xs)) ?_
  refine tk 15 rfl (Ev.assign (.t rfl)) ?_
  refine tk 16 rfl (Ev.assign (.t rfl)) ?_
  refine tk 17 rfl (Ev.assign (.t rfl)) ?_
  refine tk 18 rfl (Ev.assign (.t rfl)) ?_
  refine tk 19 rfl (Ev.assign (.t rfl)) ?_
  refine ovr (pN (seq (region (cons (opv (Ev.fieldAddr (o := 0) (.t rfl) (by kernel_rfl)) ?_)))))
  refine cons (opv (Ev.ldv ty22 (.t rfl) SConf.l_ports) ?_)
  refine cons (opv (Ev.move (.t rfl)) (cons (opv (Ev.add_i (.t rfl) (.c (v := I 1) rfl) (fun _ => by omega)) ?_)))
  refine cons (opv (Ev.sliceUpH (n := l.ps.length) (xs := l.ps ++ [(777 : Int)]) Tryz.underlying22 ty3 (.t rfl) (.t rfl) (fun w I => hm0.keep0 I.keeps) (fun _ => by simp only [List.length_append, List.length_cons, List.length_nil]; omega)) ?_)
  refine cons (opv (Ev.move (.t rfl)) (cons (opv (Ev.indexAddr Tryz.underlying22 ty3 (.t rfl) (.t rfl) (fun w I => isSl_all (hm0.keep0 I.keeps)) (fun _ => by simp only [List.length_append, List.length_cons, List.length_nil]; omega)) ?_)))
  refine cons (opv (Ev.to (v' := I 777) (Ev.loadS0 ty3 (.t rfl) (fun w I => isSl_all (hm0.keep0 I.keeps)) (fun _ => by simp only [List.length_append, List.length_cons, List.length_nil]; omega)) (congrArg I (getD_mark l.ps 777 _ _ (by omega)))) ?_)
  refine cons (opv (Ev.to (v' := .bool true) (Ev.eql_i (.t rfl) (.c (v := I 777) rfl)) (rfl)) ?_)
  refine cons (opv (Ev.move (.t rfl)) (cons (opg rfl rfl (Ev.fieldAddr (o := 1) (.t rfl) (by kernel_rfl)) ?_)))
  refine cons (opg rfl rfl (Ev.ldv ty23 (.g rfl id) SConf.l_routes) ?_)
  refine cons (opg rfl rfl (Ev.move (.t rfl)) ?_)
  refine cons (opg rfl rfl (Ev.add_i (.g rfl id) (.c (v := I 1) rfl) (fun _ => by first | omega | (rename_i hg; simp at hg; omega))) ?_)
  refine cons (opg rfl rfl (Ev.sliceUpH (n := l.rs.length) (xs := l.rs ++ [mkRo]) Tryz.underlying23 ty52 (.g rfl id) (.g rfl id) (fun w I => hm1.keep0 I.keeps) (fun _ => by simp only [List.length_append, List.length_cons, List.length_nil]; omega)) ?_)
  refine cons (opg rfl rfl (Ev.move (.t rfl)) ?_)
  refine cons (opg rfl rfl (Ev.indexAddr Tryz.underlying23 ty52 (.g rfl id) (.g rfl id) (fun w I => isSl_all (hm1.keep0 I.keeps)) (fun _ => by simp only [List.length_append, List.length_cons, List.length_nil]; omega)) ?_)
  refine cons (opg rfl rfl (Ev.fieldAddrS (o := 18) (i := (l.rs.length : Int)) (.g rfl id) (fun w I => isSl_all (hm1.keep0 I.keeps)) (fun _ => by simp only [List.length_append, List.length_cons, List.length_nil]; omega) (by kernel_rfl)) ?_)
  refine cons (opg rfl rfl (Ev.to (v' := I 777) (Ev.loadS ty3 SRoute.l_out rfl (.g rfl id) (fun w I => isSl_all (hm1.keep0 I.keeps)) (fun _ => by simp only [List.length_append, List.length_cons, List.length_nil]; omega)) (congrArg (fun z => I (SRoute.l_out.get z)) (getD_mark l.rs mkRo _ _ (by omega)))) ?_)
  refine cons (opg rfl rfl (Ev.to (v' := .bool true) (Ev.eql_i (.g rfl id) (.c (v := I 777) rfl)) (rfl)) ?_)
  refine cons (opv (Ev.to (v' := .bool true) (Ev.pickA (.t rfl) (fun {_} h => by cases h; rfl) ⟨_, rfl⟩ (by intro h1 h; first | (rw [h] <;> rfl) | (rw [h1, h] <;> rfl) | (rw [h, h1] <;> rfl) | simp_all) (.c (v := .bool false) rfl)) (rfl)) ?_)
  refine cons (opv (Ev.move (.t rfl)) (cons (opg rfl rfl (Ev.fieldAddr (o := 2) (.t rfl) (by kernel_rfl)) ?_)))
  refine cons (opg rfl rfl (Ev.ldv ty24 (.g rfl id) SConf.l_rules) ?_)
  refine cons (opg rfl rfl (Ev.move (.t rfl)) ?_)
  refine cons (opg rfl rfl (Ev.add_i (.g rfl id) (.c (v := I 1) rfl) (fun _ => by first | omega | (rename_i hg; simp at hg; omega))) ?_)
  refine cons (opg rfl rfl (Ev.sliceUpH (n := l.us.length) (xs := l.us ++ [mkRu]) Tryz.underlying24 ty76 (.g rfl id) (.g rfl id) (fun w I => hm2.keep0 I.keeps) (fun _ => by simp only [List.length_append, List.length_cons, List.length_nil]; omega)) ?_)
  refine cons (opg rfl rfl (Ev.move (.t rfl)) ?_)
  refine cons (opg rfl rfl (Ev.indexAddr Tryz.underlying24 ty76 (.g rfl id) (.g rfl id) (fun w I => isSl_all (hm2.keep0 I.keeps)) (fun _ => by simp only [List.length_append, List.length_cons, List.length_nil]; omega)) ?_)
  refine cons (opg rfl rfl (Ev.fieldAddrS (o := 46) (i := (l.us.length : Int)) (.g rfl id) (fun w I => isSl_all (hm2.keep0 I.keeps)) (fun _ => by simp only [List.length_append, List.length_cons, List.length_nil]; omega) (by kernel_rfl)) ?_)
  refine cons (opg rfl rfl (Ev.to (v' := I 777) (Ev.loadS ty3 SRule.l_out rfl (.g rfl id) (fun w I => isSl_all (hm2.keep0 I.keeps)) (fun _ => by simp only [List.length_append, List.length_cons, List.length_nil]; omega)) (congrArg (fun z => I (SRule.l_out.get z)) (getD_mark l.us mkRu _ _ (by omega)))) ?_)
  refine cons (opg rfl rfl (Ev.to (v' := .bool true) (Ev.eql_i (.g rfl id) (.c (v := I 777) rfl)) (rfl)) ?_)
  refine cons (opv (Ev.to (v' := .bool true) (Ev.pickA (.t rfl) (fun {_} h => by cases h; rfl) ⟨_, rfl⟩ (by intro h1 h; first | (rw [h] <;> rfl) | (rw [h1, h] <;> rfl) | (rw [h, h1] <;> rfl) | simp_all) (.c (v := .bool false) rfl)) (rfl)) ?_)
  refine cons (opv (Ev.move (.t rfl)) (cons (opg rfl rfl (Ev.fieldAddr (o := 3) (.t rfl) (by kernel_rfl)) ?_)))
  refine cons (opg rfl rfl (Ev.ldv ty25 (.g rfl id) SConf.l_meters) ?_)
  refine cons (opg rfl rfl (Ev.move (.t rfl)) ?_)
  refine cons (opg rfl rfl (Ev.add_i (.g rfl id) (.c (v := I 1) rfl) (fun _ => by first | omega | (rename_i hg; simp at hg; omega))) ?_)
  refine cons (opg rfl rfl (Ev.sliceUpH (n := l.ms.length) (xs := l.ms ++ [mkMe]) Tryz.underlying25 ty57 (.g rfl id) (.g rfl id) (fun w I => hm3.keep0 I.keeps) (fun _ => by simp only [List.length_append, List.length_cons, List.length_nil]; omega)) ?_)
  refine cons (opg rfl rfl (Ev.move (.t rfl)) ?_)
  refine cons (opg rfl rfl (Ev.indexAddr Tryz.underlying25 ty57 (.g rfl id) (.g rfl id) (fun w I => isSl_all (hm3.keep0 I.keeps)) (fun _ => by simp only [List.length_append, List.length_cons, List.length_nil]; omega)) ?_)
  refine cons (opg rfl rfl (Ev.fieldAddrS (o := 0) (i := (l.ms.length : Int)) (.g rfl id) (fun w I => isSl_all (hm3.keep0 I.keeps)) (fun _ => by simp only [List.length_append, List.length_cons, List.length_nil]; omega) (by kernel_rfl)) ?_)
  refine cons (opg rfl rfl (Ev.to (v' := .string ⟨#[55, 55, 55]⟩) (Ev.loadS ty9 SMeterConf.l_name rfl (.g rfl id) (fun w I => isSl_all (hm3.keep0 I.keeps)) (fun _ => by simp only [List.length_append, List.length_cons, List.length_nil]; omega)) (congrArg (fun z => Value.string (SMeterConf.l_name.get z)) (getD_mark l.ms mkMe _ _ (by omega)))) ?_)
  refine cons (opg rfl rfl (Ev.to (v' := .bool true) (Ev.eql_s (.g rfl id) (.c (v := (Go.Value.string (ByteArray.mk #[55, 55, 55]))) rfl)) (rfl)) ?_)
  refine cons (opv (Ev.to (v' := .bool true) (Ev.pickA (.t rfl) (fun {_} h => by cases h; rfl) ⟨_, rfl⟩ (by intro h1 h; first | (rw [h] <;> rfl) | (rw [h1, h] <;> rfl) | (rw [h, h1] <;> rfl) | simp_all) (.c (v := .bool false) rfl)) (rfl)) ?_)
  refine cons (opv (Ev.move (.t rfl)) (cons (opg rfl rfl (Ev.fieldAddr (o := 4) (.t rfl) (by kernel_rfl)) ?_)))
  refine cons (opg rfl rfl (Ev.ldv ty26 (.g rfl id) SConf.l_mirrors) ?_)
  refine cons (opg rfl rfl (Ev.move (.t rfl)) ?_)
  refine cons (opg rfl rfl (Ev.add_i (.g rfl id) (.c (v := I 1) rfl) (fun _ => by first | omega | (rename_i hg; simp at hg; omega))) ?_)
  refine cons (opg rfl rfl (Ev.sliceUpH (n := l.xs.length) (xs := l.xs ++ [mkMi]) Tryz.underlying26 ty59 (.g rfl id) (.g rfl id) (fun w I => hm4.keep0 I.keeps) (fun _ => by simp only [List.length_append, List.length_cons, List.length_nil]; omega)) ?_)
  refine cons (opg rfl rfl (Ev.move (.t rfl)) ?_)
  refine cons (opg rfl rfl (Ev.indexAddr Tryz.underlying26 ty59 (.g rfl id) (.g rfl id) (fun w I => isSl_all (hm4.keep0 I.keeps)) (fun _ => by simp only [List.length_append, List.length_cons, List.length_nil]; omega)) ?_)
  refine cons (opg rfl rfl (Ev.fieldAddrS (o := 1) (i := (l.xs.length : Int)) (.g rfl id) (fun w I => isSl_all (hm4.keep0 I.keeps)) (fun _ => by simp only [List.length_append, List.length_cons, List.length_nil]; omega) (by kernel_rfl)) ?_)
  refine cons (opg rfl rfl (Ev.to (v' := I 777) (Ev.loadS ty3 SMirrorConf.l_out rfl (.g rfl id) (fun w I => isSl_all (hm4.keep0 I.keeps)) (fun _ => by simp only [List.length_append, List.length_cons, List.length_nil]; omega)) (congrArg (fun z => I (SMirrorConf.l_out.get z)) (getD_mark l.xs mkMi _ _ (by omega)))) ?_)
  refine cons (opg rfl rfl (Ev.to (v' := .bool true) (Ev.eql_i (.g rfl id) (.c (v := I 777) rfl)) (rfl)) ?_)
  refine cons (opv (Ev.to (v' := .bool true) (Ev.pickA (.t rfl) (fun {_} h => by cases h; rfl) ⟨_, rfl⟩ (by intro h1 h; first | (rw [h] <;> rfl) | (rw [h1, h] <;> rfl) | (rw [h, h1] <;> rfl) | simp_all) (.c (v := .bool false) rfl)) (rfl)) ?_)
  refine cons (opv (Ev.assign (.t rfl)) (nil (pN (ret (done rfl (.tmp rfl .nil) (retE ?_))))))
  rfl
end Go.Proofs.YtnoobdijbpmjkaaGreat
